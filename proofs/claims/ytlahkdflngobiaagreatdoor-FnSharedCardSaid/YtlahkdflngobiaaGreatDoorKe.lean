/- Printed by gen.py: what the functions come to. -/
import Derived.Test.YtlahkdflngobiaaGreatDoorJh
set_option linter.unusedVariables false
set_option maxRecDepth 100000
namespace Go.Proofs.YtlahkdflngobiaaGreatDoor
open Go Go.Proofs Go.Proofs.Tryz
def zA9:Hint:=⟨[hc 4 [1,2,5]],[],[(6,[en 0,en 1,en 2,en 3,en 4,en 5,en 6,en 7]),(9,hs 7 [ec 5 [40]]),(12,hs 7 [ec 5 [50]]),(16,[en 0,en 1,en 2,en 3,en 4,en 5,en 6,en 11,ec 7 [69],en 8,en 9,en 10,ec 12 [74],en 13]),(19,[en 0,en 1,en 2,en 3,en 4,en 5,en 6,en 7,en 8,en 9,en 10,en 11,ec 12 [92],en 13,en 14,eh 15,ec 16 [85],en 17])]⟩
def pE:Hint:=⟨[hc 6 [0,2,4,10,11] [(10,102,2)]],[],[(1,hs 9 [ec 2 [14]]),(8,[en 0,en 1,en 2,en 3,en 4,en 5,en 6,en 7,en 8,ec 9 [38],en 10]),(10,[en 0,en 1,en 2,en 3,en 4,en 5,en 6,en 7,en 8,en 9,en 10,en 11,eh 12,eh 13]),(11,hs 5 [ec 2 [58]])]⟩
def vA (Q:QT [.int .i64]) (N0:Nat) (a1:Option Addr) (e1:List D) (c1:Nat) (I:Int) (J:D) (N:Nat):Prop:=AT prog 74 [.int .i64] Q N0 .ord (zD prog 74 4) ⟨an 1 (.sv a1 2 e1 c1::.pb 0 0 0 0::an 2 (.int .i64 I::an 95 [])),[.vd J 9],N,none⟩
def wg (Q:QT [.int .i64,.bool]) (N0:Nat) (a0:Option Addr) (e0:List D) (c0:Nat) (a2:Option Addr) (e2:List D) (c2 I J:Nat) (O:Int) (y0:D) (r1:List D) (q1:Nat) (N:Nat):Prop:=AT prog 30 [.int .i64,.bool] Q N0 .ord (zD prog 30 6) ⟨.sv a0 4 e0 c0::an 1 (.sv a2 0 e2 c2::an 1 (.pb 0 0 0 0::an 5 (.sb 1 2 0 I J::.int .i64 O::an 49 []))),[.vd y0 9,.arr 102 2 r1 q1],N,none⟩
theorem zG2 (N:Nat) (I:D) (n1:Int) (Q:QT [.bool]) (h :
Bel N I->∃ n:Int,(I.cell 0)=D.j n/\Br (n==2) (kB 118 [.j n1,.j 0,.j 1] N (λb a=>uP a (Q b))) (kB 118 [.j n1,.j 0,.j 10006] N (λa
 b=>uP b (Q a)))):ACalls prog 73 [.bool] [PV.dg 2 I,PV.int .i64 n1] N Q:=
  eE H0 h
theorem zLn (N:Nat) (b0:Bool) (Q:QT [.int .i64]) (h :
Br b0 (uP N (Q 1)) (uP N (Q 0))):ACalls prog 160 [.int .i64] [PV.bool b0] N Q:=
 eE H0 h
theorem zIw (N:Nat) (n0:Int) (Q:QT [.int .i64]) (h :
(10007:Int)≠(0:Int)/\Br (decide (Int.tmod n0 10007<0)) (uP N (Q (IntKind.i64.wrap (Int.tmod n0 10007+10007)))) (uP N (Q (Int.tmod n0 10007)))):ACalls prog 159 [.int .i64] [PV.int .i64 n0] N Q:=
 eE H0 h
theorem zGp (N:Nat) (s0:ByteArray) (n1 n2:Int) (Q:QT [.int .i64,.bool]) (h :
kB 118 [.j n1,.j 0,.j 10006] N (fun b a=>Br (!b) (uP a (Q 0 false)) (kB 118 [.j n2,.j 0,.j 10006] a (fun a b=>Br (!a) (uP b (Q 0 false))
 (Br (ByteArray.toList s0==ByteArray.toList (bytes [43])) (kI 159 [.j (IntKind.i64.wrap (n1+n2))] b (fun n a=>uP a (Q n true))) (Br (ByteArray.toList s0
 == ByteArray.toList (bytes [45])) (kI 159 [.j (IntKind.i64.wrap (n1 - n2))] b (fun a b=>uP b (Q a true))) (Br (ByteArray.toList s0 ==
 ByteArray.toList (bytes [42])) (kI 159 [.j (IntKind.i64.wrap (n1*n2))] b (fun a b=>uP b (Q a true))) (Br (ByteArray.toList s0==ByteArray.toList
 (bytes [61])) (kI 160 [.bool (n1==n2)] b (fun a b=>uP b (Q a true))) (Br (ByteArray.toList s0==ByteArray.toList (bytes [60])) (kI 160 [.bool
 (decide (n1<n2))] b (fun a b=>uP b (Q a true))) (Br (ByteArray.toList s0==ByteArray.toList (bytes [38])) (Br (n1==1) (kI 160 [.bool (n2==1)]
 b (fun a b=>uP b (Q a true))) (kI 160 [.bool false] b (fun a b=>uP b (Q a true)))) (Br (ByteArray.toList s0==ByteArray.toList (bytes
 [124])) (Br (n1==1) (kI 160 [.bool true] b (fun a b=>uP b (Q a true))) (kI 160 [.bool (n2==1)] b (fun a b=>uP b (Q a true)))) (Br
 (ByteArray.toList s0==ByteArray.toList (bytes [33])) (kI 160 [.bool (n1==0)] b (fun a b=>uP b (Q a true))) (uP b (Q 0 false)))))))))))))):ACalls prog 119 [.int .i64,.bool] [PV.str s0,PV.int .i64 n1,PV.int .i64 n2] N Q:=
  eE H0 h
theorem zGk (N:Nat) (I:D) (a1:Option Addr) (e1:List D) (c1:Nat) (Q:QT [.int .i64]) (h :
Bel N I->Bel N (D.sl a1 2 e1 c1)->∃ n:Int,(I.cell 0)=D.j n/\Br (n==1) (vA Q N a1 e1 c1 (IntKind.i64.wrap ((e1.length:Int) - 1))
 I N) (Br (n==4) (∃ a d,∃ c:Nat,(I.cell 8)=D.sl a 9 d c/\((0:Int)<=(0:Int)/\0<(d.length:Int))/\∀ a,N<=a->ACalls prog 74 [.i] [.dg 9
 (List.getD d 0 default),.sv a1 2 e1 c1] a (λc d=>a<=d->∃ a e,∃ f:Nat,(I.cell 8)=D.sl a 9 e f/\Br (decide ((e.length :
 Int)>1)) (∃ a e,∃ f:Nat,(I.cell 8)=D.sl a 9 e f/\((0:Int)<=(1:Int)/\1<(e.length:Int))/\∀ a,d<=a->ACalls prog 74 [.i]
 [.dg 9 (List.getD e 1 default),.sv a1 2 e1 c1] a (λd e=>a<=e->∃ s,(I.cell 1)=D.t s/\kIB 119 [.str s,.j c,.j d] e (λa _ b=>
 uP b (Q a)))) (∃ a,(I.cell 1)=D.t a/\kIB 119 [.str a,.j c,.j 0] d (λa _ b=>uP b (Q a))))) (Br (n==5) (∃ a b,∃ c:Nat,
 (I.cell 8)=D.sl a 9 b c/\∃ a c,∃ d:Nat,(I.cell 8)=D.sl a 9 c d/\((0:Int)<=(0:Int)/\0<(c.length:Int))/\∀ a,N <=
 a->ACalls prog 74 [.i] [.dg 9 (List.getD c 0 default),.sv a1 2 e1 c1] a (λc d=>a<=d->(0<=IntKind.i64.wrap (2 - c)/\IntKind.i64.wrap
 (2 - c)<(b.length:Int))/\∀ a,d<=a->ACalls prog 74 [.i] [.dg 9 (List.getD b (IntKind.i64.wrap (2 - c)).toNat default),.sv a1 2 e1 c1]
 a (λb c=>a<=c->uP c (Q b)))) (Br (n==8) ((0=0/\0=0)/\zB [] e1 24/\∀ (a:Nat),∃ b c,∃ d:Nat,(I.cell 8)=D.sl
 b 9 c d/\((0:Int)<=(1:Int)/\1<(c.length:Int))/\∃ b,(I.cell 1)=D.t b/\∃ d e,∃ f:Nat,(I.cell 8)=D.sl d 9 e f /\
 ((0:Int)<=(0:Int)/\0<(e.length:Int))/\∀ d,N<=d->ACalls prog 74 [.i] [.dg 9 (List.getD e 0 default),.sv a1 2 e1 c1] d (λe f=>
 d<=f->(([]++e1).length=([]++e1).length/\a=a)/\zB ([]++e1) [D.ag [D.t b,D.j e]] 24/\∀ (a:Nat),(([]++e1++[D.ag [D.t b,
 D.j e]]).length=([]++e1++[D.ag [D.t b,D.j e]]).length/\a=a)/\∀ d,ApA d ([]++e1++[D.ag [D.t b,D.j e]])->Off [d] (List.getD
 c 1 default)->∀ g,f<=g->wa g [d]->ACalls prog 74 [.i] [.dg 9 (List.getD c 1 default),.sv d 2 ([]++e1++[D.ag [D.t b,D.j e]])
 a] g (λa b=>g<=b->uP b (Q a)))) (∃ a:Int,(I.cell 3)=D.j a/\uP N (Q a)))))):ACalls prog 74 [.int .i64] [PV.dg 9 I,PV.sv a1 2 e1 c1] N Q:=
  eE zA9 h
theorem zGN (N:Nat) (a0:Option Addr) (e0:List D) (c0:Nat) (x1:D) (a2:Option Addr) (e2:List D) (c2:Nat) (Q:QT [.int .i64,.bool]) (h :
Bel N (D.sl a0 4 e0 c0)->Bel N x1->Bel N (D.sl a2 0 e2 c2)->kAB 2 69 [.sv a0 4 e0 c0,.dg 9 x1] N (fun _ b a=>Br (!b) (uP a (Q 0 false)) (Br (bne
 (e2.length:Int) (e0.length:Int)) (uP a (Q 0 false)) (wg Q N a0 e0 c0 a2 e2 c2 0 0 0 x1 [] 0 a)))):ACalls prog 30 [.int .i64,.bool] [PV.sv a0 4 e0 c0,PV.dg 9 x1,PV.sv a2 0 e2 c2] N Q:=
  eE pE h
theorem qc (Q:QT [.int .i64]) (N0:Nat) (a1:Option Addr) (e1:List D) (c1:Nat) (n5:Int) (y0:D) (N:Nat) (h :
Br (decide (n5≥0)) ((0<=n5/\n5<(e1.length:Int))/\∃ s,(if 0=0 then D.cell (List.getD e1 n5.toNat default) 0 else D.sub (List.getD e1 n5.toNat
 default) 0 0)=D.t s/\∃ a,(y0.cell 1)=D.t a/\Br (ByteArray.toList s==ByteArray.toList a) ((0<=n5/\n5<(e1.length:Int))/\∃ n:Int,(if 0=0
 then D.cell (List.getD e1 n5.toNat default) 1 else D.sub (List.getD e1 n5.toNat default) 1 0)=D.j n/\uP N (Q n)) (vA Q N0 a1 e1 c1
 (IntKind.i64.wrap (n5 - 1)) y0 N)) (∃ a:Int,(y0.cell 3)=D.j a/\uP N (Q a))):vA Q N0 a1 e1 c1 n5 y0 N:=
  hE zA9 h
theorem rX (Q:QT [.int .i64,.bool]) (N0:Nat) (a0:Option Addr) (e0:List D) (c0:Nat) (a2:Option Addr) (e2:List D) (c2 O J:Nat) (I:Int) (y0:D) (r1:List D) (q1:Nat) (N:Nat) (h :
Br (decide (I<(e0.length:Int))) ((0<=I/\I<(e0.length:Int))/\(0<=I/\I<(e2.length:Int))/\∃ n:Int,List.getD e2 I.toNat
 default=D.j n/\kB 73 [.dg 2 (if 2=0 then D.cell (List.getD e0 I.toNat default) 1 else D.sub (List.getD e0 I.toNat default) 1 2),.j n] N (λb a=>
 Br (!b) (uP a (Q 0 false)) ((0<=I/\I<(e0.length:Int))/\∃ s,(if 0=0 then D.cell (List.getD e0 I.toNat default) 0 else D.sub (List.getD e0
 I.toNat default) 0 0)=D.t s/\(0<=I/\I<(e2.length:Int))/\∃ b:Int,List.getD e2 I.toNat default=D.j b/\(O=r1.length/\J=q1) /\
 zB r1 [D.ag [D.t s,D.j b]] 24/\∀ (c:Nat),wg Q N0 a0 e0 c0 a2 e2 c2 (r1++[D.ag [D.t s,D.j b]]).length c (IntKind.i64.wrap (I +
 1)) y0 (r1++[D.ag [D.t s,D.j b]]) c a))) ((O=r1.length/\J=q1)/\∀ a,ApA a r1->Off [a] y0->∀ b,N<=b->wa b [a]->ACalls prog 74 [.i]
 [.dg 9 y0,.sv a 2 r1 J] b (λa c=>b<=c->uP c (Q a true)))):wg Q N0 a0 e0 c0 a2 e2 c2 O J I y0 r1 q1 N:=
  hE pE h
end Go.Proofs.YtlahkdflngobiaaGreatDoor
set_option maxRecDepth 100000
namespace Go.Proofs.YtlahkdflngobiaaGreatDoor
open Go Go.Proofs Go.Proofs.Tryz
def zD0:Hint:=⟨[hc 3 [0,3,4]],[],[]⟩
def zIH:Hint:=⟨[],[],[(2,[en 0,en 1,en 2,en 3,en 4,en 5,en 6,en 7,en 8,en 9,en 10,en 11,en 12]),(3,[en 0,en 1,en 2,en 3,en 4,en 5,en 6,en 7,en 8,en 9]),(4,[en 0,en 1,en 2,en 3,en 4,en 5,en 6,en 7,en 8,en 9,en 10,en 11,en 12,en 13,eh 14])]⟩
def zA6:Hint:=⟨[hc 3 [0,1,3,6,8,10,11] [(10,36,9)]],[],[(5,[en 0,en 1,en 2,en 3,en 4,en 5,en 6,en 7,en 8,en 9,en 10,en 11,en 12,en 13,ec 14 [31,32],en 15,en 16,en 17,en 18,en 19,en 20,en 21,en 22,en 24,eh 23,en 25,en 26])]⟩
def zHP:Hint:=⟨[],[],[(7,[en 0,en 1,en 2,en 3,en 4,en 5,en 6,en 7,en 8,en 9,eh 10,ec 11 [24,31],eh 12])]⟩
def qC:Hint:=⟨[hc 4 [0,3,4,5] [(3,74,4)]],[],[(9,[en 0,en 1,en 2,en 3,en 4,en 5,en 6,eh 7,en 8,en 9,eh 10,eh 11])]⟩
def zCY:Hint:=⟨[],[hc 5 [0,1,3,6,8]],[(10,[en 0,en 1,en 3,en 4,en 6,en 7,en 8,en 9,en 10,en 12,en 13,en 14,en 15,en 16,eh 2,eh 5,eh 11,eh 17,en 18,eh 19,eh 20]),(13,[en 0,en 1,en 2,en 3,en 4,en 5,en 7,en 8,en 9,en 10,en 12,en 13,en 14,eh 6,ec 11 [74],eh 15,ec 16 [70,79],eh 17]),(15,[en 0,en 1,en 3,en 4,en 5,en 6,en 7,en 9,en 10,en 11,en 12,en 13,eh 2,eh 8,eh 14,en 15,eh 16,eh 17]),(18,[en 0,en 1,en 3,en 4,en 5,en 6,en 7,en 9,en 10,en 11,en 12,en 13,eh 2,eh 8,eh 14,en 15,eh 16,eh 17])]⟩
def zFm:Hint:=⟨[],[],[(3,[en 0,en 1,en 3,en 4,en 5,en 11,eh 2,eh 6,eh 7,eh 8,en 9,eh 10,eh 12]),(6,[en 0,en 1,en 3,en 4,en 5,en 6,eh 2,eh 7,ec 8 [37,41],eh 9]),(7,[en 0,en 1,en 2,eh 3])]⟩
def zGr:Hint:=⟨[],[],[(4,[en 0,en 1,en 2,eh 3]),(6,[en 0,en 1,en 2,eh 3])]⟩
def uY (Q:QT [.cu]) (N0:Nat) (a0:Option Addr) (e0:List D) (I:Nat) (n3 J:Int) (N:Nat):Prop:=AT prog 67 [.cu] Q N0 .ord (zD prog 67 3) ⟨.sv a0 0 e0 I::an 2 (.int .i64 n3::.int .i64 J::an 27 []),[],N,none⟩
def yV (E:Env) (Q:QT [.row 74 4,.sl 0,.i,.i]) (N0:Nat) (m3 c3:Nat) (n4 n5:Int) (I:Option Addr) (J:List D) (O:Nat) (aa ab:Int) (r1:List D) (q1:Nat) (N:Nat):Prop:=AT prog 130 [.row 74 4,.sl 0,.i,.i] Q N0 (.io E [.var [.sv none 0 [] 0,.int .i64 0,.int .i64 0]]) (zD prog 130 4) ⟨.pb 0 0 0 0::an 2 (.sb 1 4 0 m3 c3::.int .i64 n4::.int .i64 n5::an 26 []),[.var [.sv I 0 J O,.int .i64 aa,.int .i64 ab],.arr 74 4 r1 q1],N,some (wO E 0 [.var [.sv none 0 [] 0,.int .i64 0,.int .i64 0]],[])⟩
def yU (E:Env) (Q:QT [.ag 9,.sl 0,.i,.i]) (N0:Nat) (a1:Option Addr) (e1:List D) (c1:Nat) (n3:Int) (I:Option Addr) (J:List D) (O:Nat) (aa ab:Int) (y1:D) (ac:Int) (ae ah:ByteArray) (ai aj:Int) (ak:Option Addr) (al:List D) (am:Nat) (ao:Int) (aq:Option Addr) (au:List D) (aw:Nat) (ax:Option Addr) (ay:List D) (az:Nat) (N:Nat):Prop:=AT prog 131 [.ag 9,.sl 0,.i,.i] Q N0 (.io E [.var [.sv none 0 [] 0,.int .i64 0,.int .i64 0]]) (qI prog 131 5) ⟨.pb 0 0 0 0::.sv a1 4 e1 c1::an 1 (.int .i64 n3::an 2 (.pb 1 0 0 0::an 1 (.pb 2 0 0 0::an 119 []))),[.var [.sv I 0 J O,.int .i64 aa,.int .i64 ab],.vd y1 2,.var [.int .i64 ac,.str ae,.str ah,.int .i64 ai,.int .i64 aj,.sv ak 2 al am,.int .i64 ao,.sv aq 2 au aw,.sv ax 9 ay az]],N,some (wO E 0 [.var [.sv none 0 [] 0,.int .i64 0,.int .i64 0]],[])⟩
def yG (E:Env) (Q:QT [.ag 9,.bool,.sl 0,.i,.i]) (N0:Nat) (a1:Option Addr) (e1:List D) (c1:Nat) (n3:Int) (a6 a7:Nat) (a8:Int) (I:Option Addr) (J:List D) (O:Nat) (aa ab:Int) (y1:D) (ac:Int) (ae ah:ByteArray) (ai aj:Int) (ak:Option Addr) (al:List D) (am:Nat) (ao:Int) (aq:Option Addr) (au:List D) (aw:Nat) (ax:Option Addr) (ay:List D) (az:Nat) (r3:List D) (q3:Nat) (N:Nat):Prop:=AT prog 167 [.ag 9,.bool,.sl 0,.i,.i] Q N0 (.io E [.var [.sv none 0 [] 0,.int .i64 0,.int .i64 0]]) (zD prog 167 3) ⟨.pb 0 0 0 0::.sv a1 4 e1 c1::an 1 (.int .i64 n3::an 2 (.pb 1 0 0 0::an 1 (.pb 2 0 0 0::an 1 (.sb 3 9 0 a6 a7::.int .i64 a8::an 54 [])))),[.var [.sv I 0 J O,.int .i64 aa,.int .i64 ab],.vd y1 2,.var [.int .i64 ac,.str ae,.str ah,.int .i64 ai,.int .i64 aj,.sv ak 2 al am,.int .i64 ao,.sv aq 2 au aw,.sv ax 9 ay az],.arr 36 9 r3 q3],N,some (wO E 0 [.var [.sv none 0 [] 0,.int .i64 0,.int .i64 0]],[])⟩
theorem zJy (N:Nat) (a0:Option Addr) (e0:List D) (I:Nat) (Q:QT [.cu]) (h :
Bel N (D.sl a0 0 e0 I)->uY Q N a0 e0 I (IntKind.i64.wrap (26583+(e0.length:Int))) 0 N):ACalls prog 67 [.cu] [PV.sv a0 0 e0 I] N Q:=
 eE zD0 h
theorem zL8 (N:Nat) (s0:ByteArray) (a1:Option Addr) (e1:List D) (c1:Nat) (Q:QT [.ag 9]) (h :
Bel N (D.sl a1 9 e1 c1)->kA 9 79 [.j 4,.sv a1 9 e1 c1] N (fun x a=>uP a (Q (D.ag [(x.cell 0),D.t s0,(x.cell 2),(x.cell 3),(x.cell 4),(x.cell 5),
 (x.cell 6),(x.cell 7),(x.cell 8)])))):ACalls prog 133 [.ag 9] [PV.str s0,PV.sv a1 9 e1 c1] N Q:=
  eE H0 h
theorem zHA (N:Nat) (a0:Option Addr) (e0:List D) (I:Nat) (Q:QT [.sl 4,.ag 9]) (h :
Bel N (D.sl a0 0 e0 I)->∀ d,N<=d->ACalls prog 67 [.cu] [.sv a0 0 e0 I] d (λa c e n f g=>d<=g->cB 94 [.j 4] a c e n f g (λb a
 c d e f g=>Br b (∀ b,g<=b->BCalls prog 95 [.sl 4,.ag 9,.sl 0,.i,.i] [.pb 0 0 0 0] [Bx.var [.sv a 0 c d,.j e,.j f]] b (fun
 a c d x e f g _ _ h=>b<=h->Bel h (D.sl a 4 c d)->Bel h x->Bel h (D.sl e 0 f g)->uP h (Q a c d x))) (∀ b,
 g<=b->BCalls prog 96 [.sl 4,.ag 9,.sl 0,.i,.i] [.pb 0 0 0 0] [Bx.var [.sv a 0 c d,.j e,.j f]] b (λa c d e f g h _ _
 i=>b<=i->Bel i (D.sl a 4 c d)->Bel i e->Bel i (D.sl f 0 g h)->uP i (Q a c d e)))))):ACalls prog 57 [.sl 4,.ag 9] [PV.sv a0 0 e0 I] N Q:=
  eE zGr h
theorem zAX (N:Nat) (a0:Option Addr) (e0:List D) (I:Nat) (Q:QT [.sl 4,.ag 9]) (h :
Bel N (D.sl a0 0 e0 I)->∀ b,N<=b->ACalls prog 57 [.sl 4,.ag 9] [.sv a0 0 e0 I] b (λa c d x e=>b<=e->Bel e (D.sl a 4 c d)->Bel e x
 -> uP e (Q a c d x))):ACalls prog 18 [.sl 4,.ag 9] [PV.sv a0 0 e0 I] N Q:=
  eE H0 h
theorem zAx (Q:QT [.cu]) (N0:Nat) (a0:Option Addr) (e0:List D) (c0:Nat) (n3 n4:Int) (N:Nat) (h :
Br (decide (n4<(e0.length:Int))) (Br (decide (n4<4000)) ((0<=n4/\n4<(e0.length:Int))/\∃ n:Int,List.getD e0 n4.toNat default=D.lit (.int
 IntKind.u8 n)/\uY Q N0 a0 e0 c0 (IntKind.i64.wrap (BitVec.toNat (HAnd.hAnd (BitVec.ofInt 64 (IntKind.i64.wrap (IntKind.i64.wrap (IntKind.i64.wrap
 (n3*131)+IntKind.i64.wrap n)+7))) (BitVec.ofInt 64 1073741823)):Int)) (IntKind.i64.wrap (n4+1)) N) (uP N (Q a0 e0 c0 0 n3))) (uP N (Q a0 e0 c0 0 n3))):uY Q N0 a0 e0 c0 n3 n4 N:=
  hE zD0 h
theorem zEQ (N:Nat) (n1:Int) (I:Option Addr) (J:List D) (O:Nat) (aa ab:Int) (Q:QT [Sh.bool,(Sh.sl 0),(Sh.int IntKind.i64),(Sh.int IntKind.i64)]) (h:∀ E:Env,
Bel N (D.sl I 0 J O)->∀ b,N<=b->BCalls prog 108 [.i,.sl 0,.i,.i] [.pb 0 0 0 0,.j n1] [Bx.var [.sv I 0 J O,.j
 aa,.j ab]] b (λn a c d e f g=>b<=g->Bel g (D.sl a 0 c d)->vW E [.var [.sv none 0 [] 0,.j 0,.j 0]]/\uP g (Q (n==0) a c d e
 f))):BCalls prog 94 [Sh.bool,(Sh.sl 0),(Sh.int IntKind.i64),(Sh.int IntKind.i64)] [.pb 0 0 0 0,.int .i64 n1] [.var [.sv I 0 J O,.int .i64 aa,.int .i64 ab]] N Q:=
  bE H0 h
theorem zCb (N:Nat) (I:Option Addr) (J:List D) (O:Nat) (aa ab:Int) (Q:QT [(Sh.sl 4),(Sh.ag 9),(Sh.sl 0),(Sh.int IntKind.i64),(Sh.int IntKind.i64)]) (h:∀ E:Env,
Bel N (D.sl I 0 J O)->∀ d,N<=d->BCalls prog 130 [.row 74 4,.sl 0,.i,.i] [.pb 0 0 0 0] [Bx.var [.sv I 0 J O,.j
 aa,.j ab]] d (λa c e f g n h i=>d<=i->Bel i (D.sl e 0 f g)->Bel i (D.ag a)->(a.length=a.length/\c=c)/\∀ d,ApA d
 a->∀ j,i<=j->wa j [d]->ACalls prog 116 [.sl 4] [.sv d 4 a c] j (λi k l m=>j<=m->Off [d] (D.sl i 4 k l)/\(Bel m
 (D.sl i 4 k l)->kA 2 132 [] m (λx d=>∀ j,d<=j->BCalls prog 108 [.i,.sl 0,.i,.i] [.pb 0 0 0 0,.j 2] [Bx.var [.sv e 0 f g,.j n,.j
 h]] j (λd e f g h m n=>j<=n->Bel n (D.sl e 0 f g)->cA 9 131 [.sv i 4 k l,.dg 2 x,.j (IntKind.i64.wrap (2+d))]
 e f g h m n (λd e f g h i j=>cP [D.t (bytes [43]),D.t (bytes [42])] 110 9 2 e f g h i j (λs e f g h
 i _ _ _ j=>(a.length=a.length/\c=c)/\∀ k,ApA k a->∀ l,j<=l->wa l [k]->ACalls prog 116 [.sl 4] [.sv k 4 a c] l
 (λj m n o=>l<=o->Off [k] (D.sl j 4 m n)/\(Bel o (D.sl j 4 m n)->kA 2 132 [] o (λk l=>cA 9 131 [.sv j 4 m
 n,.dg 2 k,.j 2] e f g h i l (λe f g h i j k=>(2=([d,e]).length/\2=2)/\∀ l,ApA l [d,e]->∀ m,
 k<=m->wa m [l]->ACalls prog 133 [.ag 9] [.str s,.sv l 9 [d,e] 2] m (λe k=>m<=k->Off [l] e/\(Bel k e->cB 94
 [.j 2] f g h i j k (λb f g h i j k=>Br b ((2=([e,d]).length/\2=2)/\∀ b,ApA b [e,d]->∀ l,k<=l
 -> wa l [b]->ACalls prog 133 [.ag 9] [.str (bytes [45]),.sv b 9 [e,d] 2] l (λd e=>l<=e->Off [b] d/\(Bel e d ->
 (a.length=a.length/\c=c)/\w5 (a.length=a.length/\c=c) (∀ b k,e<=k->Fresh N k b [D.ag a,d]->vW E [.var [.sv none 0 [] 0,
 .j 0,.j 0]]/\uP k (Q b a c d f g h i j))))) (cP [D.t (bytes [117]),D.t (bytes [120])] 110 9 2 f g h i j k (λb f
 g h i j _ _ _ k=>(2=([d,d]).length/\2=2)/\∀ l,ApA l [d,d]->∀ m,k<=m->wa m [l]->ACalls prog
 133 [.ag 9] [.str (bytes [43]),.sv l 9 [d,d] 2] m (λd k=>m<=k->Off [l] d/\(Bel k d->kA 9 38 [.str b,.dg 9 e,.dg 9
 d] k (λb d=>(a.length=a.length/\c=c)/\w5 (a.length=a.length/\c=c) (∀ e k,d<=k->Fresh N k e [D.ag a,b]->vW E
 [.var [.sv none 0 [] 0,.j 0,.j 0]]/\uP k (Q e a c b f g h i j)))))))))))))))))))))):BCalls prog 96 [(Sh.sl 4),(Sh.ag 9),(Sh.sl 0),(Sh.int IntKind.i64),(Sh.int IntKind.i64)] [.pb 0 0 0 0] [.var [.sv I 0 J O,.int .i64 aa,.int .i64 ab]] N Q:=
  bE zFm h
theorem zDg (N:Nat) (n1:Int) (aB0_0:Option Addr) (eB0_0:List D) (cB0_0:Nat) (nB0_1 nB0_2:Int) (Q:QT [(Sh.int IntKind.i64),(Sh.sl 0),(Sh.int IntKind.i64),(Sh.int IntKind.i64)]) (h:∀ E:Env,
Bel N (D.sl aB0_0 0 eB0_0 cB0_0)->Br (decide (n1<=0)) (vW E [.var [.sv none 0 [] 0,.j 0,.j 0]]/\uP N (Q 0 aB0_0 eB0_0 cB0_0 nB0_1 nB0_2))
 (Br (decide (n1<=256)) (cI 148 [] aB0_0 eB0_0 cB0_0 nB0_1 nB0_2 N (fun n a b c d e f=>n1≠0/\vW E [.var [.sv none 0 [] 0,.j 0,.j 0]]/\uP f (Q
 (Int.tmod n n1) a b c d e))) (cI 148 [] aB0_0 eB0_0 cB0_0 nB0_1 nB0_2 N (fun a b c d e f g=>cI 148 [] b c d e f g (fun b c
 d e f g h=>cI 148 [] c d e f g h (fun c d e f g h i=>cI 148 [] d e f g h i (fun d e f g h
 i j=>n1≠0/\vW E [.var [.sv none 0 [] 0,.j 0,.j 0]]/\∀ k,j<=k->Q (Int.tmod (IntKind.i64.wrap (IntKind.i64.wrap (IntKind.i64.wrap
 (IntKind.i64.wrap (a*16777216)+IntKind.i64.wrap (b*65536))+IntKind.i64.wrap (c*256))+d)) n1) e f g h i k))))))):BCalls prog 108 [(Sh.int IntKind.i64),(Sh.sl 0),(Sh.int IntKind.i64),(Sh.int IntKind.i64)] [.pb 0 0 0 0,.int .i64 n1] [.var [.sv aB0_0 0 eB0_0 cB0_0,.int .i64 nB0_1,.int .i64 nB0_2]] N Q:=
  bE H0 h
theorem zBY (N:Nat) (I:Option Addr) (J:List D) (O:Nat) (aa ab:Int) (Q:QT [(Sh.row (OfNat.ofNat 74) 4),(Sh.sl 0),(Sh.int IntKind.i64),(Sh.int IntKind.i64)]) (h:∀ E:Env,
Bel N (D.sl I 0 J O)->∀ b,N<=b->BCalls prog 108 [.i,.sl 0,.i,.i] [.pb 0 0 0 0,.j 4] [Bx.var [.sv I 0 J O,.j
 aa,.j ab]] b (λn a c d e f g=>b<=g->Bel g (D.sl a 0 c d)->yV E Q N 0 0 (IntKind.i64.wrap (1+n)) 0 a c d e f []
 0 g)):BCalls prog 130 [(Sh.row (OfNat.ofNat 74) 4),(Sh.sl 0),(Sh.int IntKind.i64),(Sh.int IntKind.i64)] [.pb 0 0 0 0] [.var [.sv I 0 J O,.int .i64 aa,.int .i64 ab]] N Q:=
  bE qC h
theorem qL (N:Nat) (a1:Option Addr) (e1:List D) (c1:Nat) (x2:D) (n3:Int) (I:Option Addr) (J:List D) (O:Nat) (aa ab:Int) (Q:QT [(Sh.ag 9),(Sh.sl 0),(Sh.int IntKind.i64),(Sh.int IntKind.i64)]) (h:∀ E:Env,
Bel N (D.sl a1 4 e1 c1)->Bel N x2->Bel N (D.sl I 0 J O)->cB 94 [.j 3] I J O aa ab N (λb a c d n e f=>
 Br (!b) (∀ b,f<=b->BCalls prog 167 [.ag 9,.bool,.sl 0,.i,.i] [.pb 0 0 0 0,.sv a1 4 e1 c1,.dg 2 x2,.j 0] [Bx.var [.sv a 0 c d,.j n,.j e]] b
 (λx a c d e f g h=>b<=h->Bel h x->Bel h (D.sl c 0 d e)->Br a (vW E [.var [.sv none 0 [] 0,.j 0,.j 0]]/\uP h (Q x c
 d e f g)) (yU E Q N a1 e1 c1 n3 c d e f g x2 0 b0 b0 0 0 none [] 0 0 none [] 0 none [] 0 h))) (Br (decide (n3<2)) (∀ b,f
 <= b->BCalls prog 167 [.ag 9,.bool,.sl 0,.i,.i] [.pb 0 0 0 0,.sv a1 4 e1 c1,.dg 2 x2,.j 0] [Bx.var [.sv a 0 c d,.j n,.j e]] b (λa c d
 e f g h i=>b<=i->Bel i a->Bel i (D.sl d 0 e f)->Br c (vW E [.var [.sv none 0 [] 0,.j 0,.j 0]]/\uP i (Q a d e f g
 h)) (yU E Q N a1 e1 c1 n3 d e f g h x2 0 b0 b0 0 0 none [] 0 0 none [] 0 none [] 0 i))) (yU E Q N a1 e1 c1 n3 a c d n
 e x2 0 b0 b0 0 0 none [] 0 0 none [] 0 none [] 0 f)))):BCalls prog 131 [(Sh.ag 9),(Sh.sl 0),(Sh.int IntKind.i64),(Sh.int IntKind.i64)] [.pb 0 0 0 0,.sv a1 4 e1 c1,.dg 2 x2,.int .i64 n3] [.var [.sv I 0 J O,.int .i64 aa,.int .i64 ab]] N Q:=
  bE zCY h
theorem zEW (N:Nat) (m1 c1:Nat) (I:Option Addr) (J:List D) (O:Nat) (ab ac:Int) (aa:List D) (ae:Nat) (Q:QT [Sh.str,(Sh.sl 0),(Sh.int IntKind.i64),(Sh.int IntKind.i64),(Sh.sl 0)]) (h:∀ E:Env,
Bel N (D.sl I 0 J O)->Bel N (D.sl none 0 aa ae)->∀ b,N<=b->BCalls prog 108 [.i,.sl 0,.i,.i] [.pb 0 0 0 0,.j (m1:Int)]
 [Bx.var [.sv I 0 J O,.j ab,.j ac]] b (λn a c d e f g=>b<=g->Bel g (D.sl a 0 c d)->(0<=n/\n<(m1:Int)/\(0+n.toNat
 : Nat)<aa.length)/\(0+n.toNat:Nat)<aa.length/\∃ s,List.getD aa (0+n.toNat:Nat) default=D.t s/\vW E [.var [.sv none 0 [] 0,.j 0,.j 0],
 .arr 9 0 [] 0]/\uP g (Q s a c d e f none aa ae))):BCalls prog 110 [Sh.str,(Sh.sl 0),(Sh.int IntKind.i64),(Sh.int IntKind.i64),(Sh.sl 0)] [.pb 0 0 0 0,.sb 1 0 0 m1 c1] [.var [.sv I 0 J O,.int .i64 ab,.int .i64 ac],.arr 9 0 aa ae] N Q:=
  bE H0 h
theorem zEL (N:Nat) (aa:Option Addr) (I:List D) (ab:Nat) (J O:Int) (Q:QT [(Sh.int IntKind.i64),(Sh.sl 0),(Sh.int IntKind.i64),(Sh.int IntKind.i64)]) (h:∀ E:Env,
Bel N (D.sl aa 0 I ab)->(0:Int)<=(33:Int)/\(0:Int)<=(45:Int)/\Br (decide (J<(I.length:Int))) ((0<=J /\
 J<(I.length:Int))/\∃ n:Int,List.getD I J.toNat default=D.lit (.int IntKind.u8 n)/\vW E [.var [.sv none 0 [] 0,.j 0,.j 0]]/\∀ a,
 N<=a->Q (IntKind.i64.wrap (BitVec.toNat (HAnd.hAnd (BitVec.ofInt 64 (IntKind.i64.wrap (IntKind.i64.wrap (BitVec.toNat (HAnd.hAnd (BitVec.ofInt 64
 (IntKind.i64.wrap (BitVec.toNat (HXor.hXor (BitVec.ofInt 64 (Int.fdiv (IntKind.i64.wrap (IntKind.i64.wrap (O*6364136223846793005)+1442695040888963407))
 8589934592)) (BitVec.ofInt 64 (Int.fdiv (IntKind.i64.wrap (IntKind.i64.wrap (O*6364136223846793005)+1442695040888963407)) 35184372088832))):Int)))
 (BitVec.ofInt 64 255)):Int)+IntKind.i64.wrap n))) (BitVec.ofInt 64 255)):Int)) aa I ab (IntKind.i64.wrap (J+1)) (IntKind.i64.wrap
 (IntKind.i64.wrap (O*6364136223846793005)+1442695040888963407)) a) (vW E [.var [.sv none 0 [] 0,.j 0,.j 0]]/\∀ a,N<=a->Q (IntKind.i64.wrap
 (BitVec.toNat (HAnd.hAnd (BitVec.ofInt 64 (IntKind.i64.wrap (BitVec.toNat (HXor.hXor (BitVec.ofInt 64 (Int.fdiv (IntKind.i64.wrap (IntKind.i64.wrap (O *
 6364136223846793005)+1442695040888963407)) 8589934592)) (BitVec.ofInt 64 (Int.fdiv (IntKind.i64.wrap (IntKind.i64.wrap (O*6364136223846793005) +
 1442695040888963407)) 35184372088832))):Int))) (BitVec.ofInt 64 255)):Int)) aa I ab J (IntKind.i64.wrap (IntKind.i64.wrap (O *
 6364136223846793005)+1442695040888963407)) a)):BCalls prog 148 [(Sh.int IntKind.i64),(Sh.sl 0),(Sh.int IntKind.i64),(Sh.int IntKind.i64)] [.pb 0 0 0 0] [.var [.sv aa 0 I ab,.int .i64 J,.int .i64 O]] N Q:=
  bE zIH h
theorem sE (E:Env) (Q:QT [(Sh.row (OfNat.ofNat 74) 4),(Sh.sl 0),(Sh.int IntKind.i64),(Sh.int IntKind.i64)]) (N0:Nat) (m3 c3:Nat) (n4 I:Int) (J:Option Addr) (O:List D) (aa:Nat) (ab ac:Int) (r1:List D) (q1:Nat) (N:Nat) (h :
Br (decide (I<n4)) (kA 2 132 [] N (λx d=>Br (I==3) (kA 2 166 [] d (λd e=>(0<=I/\I<4/\(0+I.toNat:Nat)<4)/\(0+I.toNat
 : Nat)<4/\∃ s,List.getD [D.t (bytes [120]),D.t (bytes [121]),D.t (bytes [110]),D.t (bytes [98])] (0+I.toNat:Nat) default=D.t s/\cB 94 [.j 2] J
 O aa ab ac e (λb a c e n f g=>(m3=r1.length/\c3=q1)/\zB r1 [D.ag [D.t s,(d.cell 0),(d.cell 1),D.lit (.bool b)]] 56/\∀ (h
 : Nat),yV E Q N0 (r1++[D.ag [D.t s,(d.cell 0),(d.cell 1),D.lit (.bool b)]]).length h n4 (IntKind.i64.wrap (I+1)) a c e n f (r1
 ++ [D.ag [D.t s,(d.cell 0),(d.cell 1),D.lit (.bool b)]]) h g))) ((0<=I/\I<4/\(0+I.toNat:Nat)<4)/\(0+I.toNat:Nat)<4/\∃ a,
 List.getD [D.t (bytes [120]),D.t (bytes [121]),D.t (bytes [110]),D.t (bytes [98])] (0+I.toNat:Nat) default=D.t a/\cB 94 [.j 2] J O aa ab
 ac d (λb c d e f g h=>(m3=r1.length/\c3=q1)/\zB r1 [D.ag [D.t a,(x.cell 0),(x.cell 1),D.lit (.bool b)]] 56/\∀ (i :
 Nat),yV E Q N0 (r1++[D.ag [D.t a,(x.cell 0),(x.cell 1),D.lit (.bool b)]]).length i n4 (IntKind.i64.wrap (I+1)) c d e f
 g (r1++[D.ag [D.t a,(x.cell 0),(x.cell 1),D.lit (.bool b)]]) i h)))) (vW E [.var [.sv none 0 [] 0,.j 0,.j 0]]/\(m3=r1.length/\c3=q1) /\
 uP N (Q r1 c3 J O aa ab ac))):yV E Q N0 m3 c3 n4 I J O aa ab ac r1 q1 N:=
  hE qC h
theorem zDf (N:Nat) (a1:Option Addr) (e1:List D) (c1:Nat) (x2:D) (n3:Int) (I:Option Addr) (J:List D) (O:Nat) (aa ab:Int) (Q:QT [(Sh.ag 9),Sh.bool,(Sh.sl 0),(Sh.int IntKind.i64),(Sh.int IntKind.i64)]) (h:∀ E:Env,
Bel N (D.sl a1 4 e1 c1)->Bel N x2->Bel N (D.sl I 0 J O)->yG E Q N a1 e1 c1 n3 0 0 0 I J O aa ab
 x2 0 b0 b0 0 0 none [] 0 0 none [] 0 none [] 0 [] 0 N):BCalls prog 167 [(Sh.ag 9),Sh.bool,(Sh.sl 0),(Sh.int IntKind.i64),(Sh.int IntKind.i64)] [.pb 0 0 0 0,.sv a1 4 e1 c1,.dg 2 x2,.int .i64 n3] [.var [.sv I 0 J O,.int .i64 aa,.int .i64 ab]] N Q:=
  bE zA6 h
theorem p7 (E:Env) (Q:QT [(Sh.ag 9),(Sh.sl 0),(Sh.int IntKind.i64),(Sh.int IntKind.i64)]) (N0:Nat) (a1:Option Addr) (e1:List D) (c1:Nat) (n3:Int) (I:Option Addr) (J:List D) (O:Nat) (aa ab:Int) (y1:D) (ac:Int) (ae ah:ByteArray) (ai aj:Int) (ak:Option Addr) (al:List D) (am:Nat) (ao:Int) (aq:Option Addr) (au:List D) (aw:Nat) (ax:Option Addr) (ay:List D) (az:Nat) (N:Nat) (h :
Br (decide (n3<2)) (cA 9 168 [.dg 2 y1,.j 0] I J O aa ab N (λx a b c n d e=>vW E [.var [.sv none 0 [] 0,.j 0,.j 0]]/\uP e (Q
 x a b c n d))) (kA 2 132 [] N (λa c=>∀ d,c<=d->BCalls prog 108 [.i,.sl 0,.i,.i] [.pb 0 0 0 0,.j 5] [Bx.var [.sv I 0 J O,.j aa,
 .j ab]] d (λc e f g h i j=>d<=j->Bel j (D.sl e 0 f g)->Br (c==0) (kA 2 166 [] j (λa b=>cA 9 131 [.sv a1 4 e1 c1,
 .dg 2 a,.j (IntKind.i64.wrap (n3 - 1))] e f g h i b (λa b c d e f g=>cA 9 131 [.sv a1 4 e1 c1,.dg 2 y1,.j (IntKind.i64.wrap
 (n3 - 1))] b c d e f g (λb c d e f g h=>cA 9 131 [.sv a1 4 e1 c1,.dg 2 y1,.j (IntKind.i64.wrap (n3 - 1))] c d e f
 g h (λc d e f g h i=>(3=([a,b,c]).length/\3=3)/\∀ j,ApA j [a,b,c]->∀ k,i<=k->wa k [j] ->
 ACalls prog 79 [.ag 9] [.j 5,.sv j 9 [a,b,c] 3] k (λa b=>k<=b->Off [j] a/\(Bel b a->vW E [.var [.sv none 0 [] 0,.j 0,
 .j 0]]/\uP b (Q a d e f g h)))))))) (Br (c==1) (cP [D.t (bytes [120]),D.t (bytes [117]),D.t (bytes [118]),D.t (bytes [121])] 110 9 4 e
 f g h i j (λs b c d e f _ _ _ g=>cA 9 131 [.sv a1 4 e1 c1,.dg 2 a,.j (IntKind.i64.wrap (n3 - 1))] b c d e
 f g (λb c d e f g h=>kL 4 169 [.sv a1 4 e1 c1,.str s,.dg 2 a,.j 0] h (λa h i j=>cA 9 131 [.sv a 4 h i,
 .dg 2 y1,.j (IntKind.i64.wrap (n3 - 1))] c d e f g j (λa c d e f g h=>kA 9 38 [.str s,.dg 9 b,.dg 9 a] h (λa
 b=>vW E [.var [.sv none 0 [] 0,.j 0,.j 0]]/\uP b (Q a c d e f g))))))) (∃ c:Int,(y1.cell 0)=D.j c/\Br (c==1) (cP
 [D.t (bytes [43]),D.t (bytes [42]),D.t (bytes [45])] 110 9 3 e f g h i j (λb c d e f g _ _ _ h=>cA 9 131 [.sv
 a1 4 e1 c1,.dg 2 a,.j (IntKind.i64.wrap (n3 - 1))] c d e f g h (λc d e f g h i=>cA 9 131 [.sv a1 4 e1 c1,.dg 2
 a,.j (IntKind.i64.wrap (n3 - 1))] d e f g h i (λa d e f g h i=>(2=([c,a]).length/\2=2)/\∀ j,ApA
 j [c,a]->∀ k,i<=k->wa k [j]->ACalls prog 133 [.ag 9] [.str b,.sv j 9 [c,a] 2] k (λa b=>k<=b->Off
 [j] a/\(Bel b a->vW E [.var [.sv none 0 [] 0,.j 0,.j 0]]/\uP b (Q a d e f g h))))))) (cB 94 [.j 4] e f g h i
 j (λb c d e f g h=>Br b (cA 9 131 [.sv a1 4 e1 c1,.dg 2 y1,.j (IntKind.i64.wrap (n3 - 1))] c d e f g h (λa
 b c d e f g=>(1=([a]).length/\1=1)/\∀ h,ApA h [a]->∀ i,g<=i->wa i [h]->ACalls prog 133 [.ag 9] [.str
 (bytes [33]),.sv h 9 [a] 1] i (λa g=>i<=g->Off [h] a/\(Bel g a->vW E [.var [.sv none 0 [] 0,.j 0,.j 0]]/\uP g (Q
 a b c d e f))))) (cP [D.t (bytes [61]),D.t (bytes [60])] 110 9 2 c d e f g h (λb c d e f g _ _
 _ h=>cA 9 131 [.sv a1 4 e1 c1,.dg 2 a,.j (IntKind.i64.wrap (n3 - 1))] c d e f g h (λc d e f g h i=>cA 9
 131 [.sv a1 4 e1 c1,.dg 2 a,.j (IntKind.i64.wrap (n3 - 1))] d e f g h i (λa d e f g h i=>(2=([c,
 a]).length/\2=2)/\∀ j,ApA j [c,a]->∀ k,i<=k->wa k [j]->ACalls prog 133 [.ag 9] [.str b,.sv j 9 [c,a] 2] k
 (λa b=>k<=b->Off [j] a/\(Bel b a->vW E [.var [.sv none 0 [] 0,.j 0,.j 0]]/\uP b (Q a d e f g
 h))))))))))))))):yU E Q N0 a1 e1 c1 n3 I J O aa ab y1 ac ae ah ai aj ak al am ao aq au aw ax ay az N:=
  hE zCY h
theorem qY (E:Env) (Q:QT [(Sh.ag 9),Sh.bool,(Sh.sl 0),(Sh.int IntKind.i64),(Sh.int IntKind.i64)]) (N0:Nat) (a1:Option Addr) (e1:List D) (c1:Nat) (n3:Int) (ae a8:Nat) (I:Int) (J:Option Addr) (O:List D) (aa:Nat) (ab ac:Int) (y1:D) (ah:Int) (ai aj:ByteArray) (ak al:Int) (am:Option Addr) (ao:List D) (aq:Nat) (au:Int) (aw:Option Addr) (ax:List D) (ay:Nat) (az:Option Addr) (a6:List D) (a7:Nat) (r3:List D) (q3:Nat) (N:Nat) (h :
Br (decide (I<(e1.length:Int))) ((0<=I/\I<(e1.length:Int))/\∃ n:Int,(if 0=0 then D.cell (List.getD e1 I.toNat default) 3 else D.sub
 (List.getD e1 I.toNat default) 3 0)=D.j n/\Br (n==n3) ((0<=I/\I<(e1.length:Int))/\kB 68 [.dg 2 (if 2=0 then D.cell (List.getD e1 I.toNat
 default) 1 else D.sub (List.getD e1 I.toNat default) 1 2),.dg 2 y1] N (λb a=>Br b ((0<=I/\I<(e1.length:Int))/\∃ s,(if 0=0 then D.cell
 (List.getD e1 I.toNat default) 0 else D.sub (List.getD e1 I.toNat default) 0 0)=D.t s/\kI 183 [.sv a1 4 e1 c1,.str s] a (λa b=>Br (a==I)
 ((0<=I/\I<(e1.length:Int))/\∃ a,(if 0=0 then D.cell (List.getD e1 I.toNat default) 0 else D.sub (List.getD e1 I.toNat default) 0 0)=D.t
 a/\kA 9 82 [.str a] b (λx a=>(ae=r3.length/\a8=q3)/\zB r3 [x] 136/\∀ (c:Nat),yG E Q N0 a1 e1 c1 n3 (r3++[x]).length
 c (IntKind.i64.wrap (I+1)) J O aa ab ac y1 ah ai aj ak al am ao aq au aw ax ay az a6 a7 (r3++[x]) c a))
 (yG E Q N0 a1 e1 c1 n3 ae a8 (IntKind.i64.wrap (I+1)) J O aa ab ac y1 ah ai aj ak al am ao aq au aw ax
 ay az a6 a7 r3 q3 b))) (yG E Q N0 a1 e1 c1 n3 ae a8 (IntKind.i64.wrap (I+1)) J O aa ab ac y1 ah ai aj ak al
 am ao aq au aw ax ay az a6 a7 r3 q3 a))) (yG E Q N0 a1 e1 c1 n3 ae a8 (IntKind.i64.wrap (I+1)) J O aa ab ac
 y1 ah ai aj ak al am ao aq au aw ax ay az a6 a7 r3 q3 N)) (Br ((ae:Int)==0) (vW E [.var [.sv none 0 [] 0,.j 0,.j 0]]/\∀
 a,N<=a->Q (D.ag [D.j 0,D.t b0,D.t b0,D.j 0,D.j 0,D.sl none 2 [] 0,D.j 0,D.sl none 2 [] 0,D.sl none 9 [] 0]) false J O aa ab ac a) (∀
 b,N<=b->BCalls prog 108 [.i,.sl 0,.i,.i] [.pb 0 0 0 0,.j (ae:Int)] [Bx.var [.sv J 0 O aa,.j ab,.j ac]] b (λa c d e f g h
 => b<=h->Bel h (D.sl c 0 d e)->(0<=a/\a<(ae:Int)/\(0+a.toNat:Nat)<r3.length)/\(0+a.toNat:Nat)<r3.length/\vW E [.var
 [.sv none 0 [] 0,.j 0,.j 0]]/\uP h (Q (List.getD r3 (0+a.toNat:Nat) default) true c d e f g))))):yG E Q N0 a1 e1 c1 n3 ae a8 I J O aa ab ac y1 ah ai aj ak al am ao aq au aw ax ay az a6 a7 r3 q3 N:=
  hE zA6 h
theorem wd (N:Nat) (x1:D) (n2:Int) (aB0_0:Option Addr) (eB0_0:List D) (cB0_0:Nat) (nB0_1 nB0_2:Int) (Q:QT [(Sh.ag 9),(Sh.sl 0),(Sh.int IntKind.i64),(Sh.int IntKind.i64)]) (h:∀ E:Env,
Bel N x1->Bel N (D.sl aB0_0 0 eB0_0 cB0_0)->∃ n:Int,(x1.cell 0)=D.j n/\Br (n==1) (∀ b,N<=b->BCalls prog 108 [.i,.sl 0,.i,.i]
 [.pb 0 0 0 0,.j 4] [Bx.var [.sv aB0_0 0 eB0_0 cB0_0,.j nB0_1,.j nB0_2]] b (fun a c d e f g h=>b<=h->Bel h (D.sl c 0 d e)->kA 9 178 [.j a]
 h (fun x a=>vW E [.var [.sv none 0 [] 0,.j 0,.j 0]]/\uP a (Q x c d e f g)))) (Br (n==2) (∀ a,N<=a->BCalls prog 108 [.i,.sl 0,.i,.i]
 [.pb 0 0 0 0,.j 2] [Bx.var [.sv aB0_0 0 eB0_0 cB0_0,.j nB0_1,.j nB0_2]] a (fun b c d e f g h=>a<=h->Bel h (D.sl c 0 d e)->kA 9
 179 [.j b] h (fun a b=>vW E [.var [.sv none 0 [] 0,.j 0,.j 0]]/\uP b (Q a c d e f g)))) (Br (n==3) (∃ a b,∃ c:Nat,
 (x1.cell 1)=D.sl a 2 b c/\((0:Int)<=(0:Int)/\0<(b.length:Int))/\∃ a c,∃ d:Nat,(x1.cell 1)=D.sl a 2 c d/\((0:Int)
 <= (1:Int)/\1<(c.length:Int))/\cA 9 168 [.dg 2 (List.getD c 1 default),.j n2] aB0_0 eB0_0 cB0_0 nB0_1 nB0_2 N (fun a c d e f g h=>
 kA 9 191 [.str (bytes [119]),.dg 2 (List.getD b 0 default),.dg 9 a] h (fun a b=>vW E [.var [.sv none 0 [] 0,.j 0,.j 0]]/\uP b (Q a c
 d e f g)))) (∃ a b,∃ c:Nat,(x1.cell 1)=D.sl a 2 b c/\((0:Int)<=(0:Int)/\0<(b.length:Int))/\cA 9 168 [.dg 2
 (List.getD b 0 default),.j (IntKind.i64.wrap (n2+1))] aB0_0 eB0_0 cB0_0 nB0_1 nB0_2 N (fun a b c d e f g=>w3 (1=([a]).length/\1 =
 1) (∀ h i,g<=i->Fresh N i h [D.ag [a],D.sl none 2 [] 0,D.sl none 2 [] 0]->vW E [.var [.sv none 0 [] 0,.j 0,.j 0]]/\∀ g,i<=g->Q
 (D.ag [D.j 10,D.t b0,D.t b0,D.j 0,D.j 0,D.sl none 2 [] 0,D.j 0,D.sl none 2 [] 0,D.sl h 9 [a] 1]) b c d e f g)))))):BCalls prog 168 [(Sh.ag 9),(Sh.sl 0),(Sh.int IntKind.i64),(Sh.int IntKind.i64)] [.pb 0 0 0 0,.dg 2 x1,.int .i64 n2] [.var [.sv aB0_0 0 eB0_0 cB0_0,.int .i64 nB0_1,.int .i64 nB0_2]] N Q:=
  bE zHP h
end Go.Proofs.YtlahkdflngobiaaGreatDoor
