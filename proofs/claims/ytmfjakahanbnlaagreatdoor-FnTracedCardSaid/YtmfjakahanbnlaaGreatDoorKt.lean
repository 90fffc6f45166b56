/- Printed by gen.py: what the functions come to. -/
import Derived.Test.YtmfjakahanbnlaaGreatDoorJh
set_option linter.unusedVariables false
set_option maxRecDepth 100000
namespace Go.Proofs.YtmfjakahanbnlaaGreatDoor
open Go Go.Proofs Go.Proofs.Tryz
def zEp:Hint:=⟨[hc 3 [0,1,5,6] [(5,5,0)]],[],[]⟩
def zIh:Hint:=⟨[],[],[(7,[en 0,en 1,en 2,en 3,en 7,en 8,en 9,en 10,ec 4 [14],en 5,en 6,ec 11 [21],en 12,en 13,en 14]),(8,hs 8 [ec 4 [28]])]⟩
def zIa:Hint:=⟨[],[],[(5,[en 0,en 1,en 2,en 3,en 4,en 5,en 9,en 10,en 11,ec 6 [20],en 7,en 8,en 12,en 13,en 14]),(9,[en 0,en 1,en 2,en 3,en 4,eh 5,en 6,en 7,en 8]),(11,[en 0,en 1,en 2,en 3,en 4,en 5,en 6,en 7,en 8,en 9,en 13,en 14,en 18,en 19,en 20,ec 10 [56],en 11,en 12,ec 15 [61],en 16,en 17,en 21,en 22,en 23])]⟩
def zBK:Hint:=⟨[hc 3 [1,3,4] [(3,9,0)]],[],[(5,hs 10 [ec 6 [18]]),(16,[en 0,en 1,en 2,en 3,en 4,en 5,en 6,en 7,en 8,en 9,en 10,en 11,en 12]),(21,hs 4 [ec 2 [77]])]⟩
def zKf:Hint:=⟨[],[],[]⟩
def xW (Q:QT [.str]) (N0:Nat) (a0:Option Addr) (e0:List D) (c0:Nat) (I:ByteArray) (J O:Nat) (U:Int) (r0:List D) (Y:Nat) (N:Nat):Prop:=AT prog 99 [.str] Q N0 .ord (zC prog 99 3) ⟨.sv a0 0 e0 c0::.str I::an 3 (.sb 0 0 0 J O::.int .i64 U::an 20 []),[.arr 5 0 r0 Y],N,none⟩
def wx (Q:QT [.str]) (N0:Nat) (I J:Nat) (O:Int) (U:D) (r1:List D) (Y:Nat) (N:Nat):Prop:=AT prog 119 [.str] Q N0 .ord (zC prog 119 3) ⟨an 1 (.pb 0 0 0 0::an 1 (.sb 1 0 0 I J::.int .i64 O::an 75 [])),[.vd U 9,.arr 9 0 r1 Y],N,none⟩
theorem zD5 (N:Nat) (a0:Option Addr) (e0:List D) (c0:Nat) (I:ByteArray) (Q:QT [.str]) (h :
Bel N (D.sl a0 0 e0 c0)->xW Q N a0 e0 c0 I 0 0 0 [] 0 N):ACalls prog 99 [.str] [PV.sv a0 0 e0 c0,PV.str I] N Q:=
 eE (H:=zEp) (by kernel_rfl) (by kernel_rfl) h
theorem vn (N:Nat) (I:D) (Q:QT [.str]) (h :
Bel N I->∃ n:Int,(I.cell 0)=D.lit (.int .i64 n)/\Br (n==1) (∀ a,N<=a->Q (bytes [73]) a) (Br (n==2) (∀ a,N<=a->Q (bytes [66]) a) (Br
 (n==3) (∃ a b,∃ c:Nat,(I.cell 1)=D.sl a 2 b c/\((0:Int)<=(0:Int)/\0<(b.length:Int))/\∃ a c,∃ d:Nat,(I.cell 1)=D.sl a 2 c
 d/\((0:Int)<=(1:Int)/\1<(c.length:Int))/\∀ a,N<=a->ACalls prog 245 [.str] [.dg 2 (List.getD b 0 default)] a (λs b=>a<=b ->
 (1+s.size:Nat)<=9223372036854775807/\(ByteArray.size (bytes [40]++s)+1:Nat)<=9223372036854775807/\∀ a,b<=a->ACalls prog 245 [.str] [.dg 2
 (List.getD c 1 default)] a (λb c=>a<=c->(ByteArray.size (bytes [40]++s++bytes [62])+b.size:Nat)<=9223372036854775807/\(ByteArray.size
 (bytes [40]++s++bytes [62]++b)+1:Nat)<=9223372036854775807/\∀ a,c<=a->Q (bytes [40]++s++bytes [62]++b++bytes [41]) a))) (∃ a
 b,∃ c:Nat,(I.cell 1)=D.sl a 2 b c/\((0:Int)<=(0:Int)/\0<(b.length:Int))/\∀ a,N<=a->ACalls prog 245 [.str] [.dg 2 (List.getD
 b 0 default)] a (λb c=>a<=c->(1+b.size:Nat)<=9223372036854775807/\(ByteArray.size (bytes [60]++b)+1:Nat)<=9223372036854775807
 /\ ∀ a,c<=a->Q (bytes [60]++b++bytes [62]) a))))):ACalls prog 245 [.str] [PV.dg 2 I] N Q:=
  eE (H:=zIh) (by kernel_rfl) (by kernel_rfl) h
theorem zHv (N:Nat) (I:D) (J:Option Addr) (e1:List D) (O:Nat) (Q:QT [.str]) (h :
Bel N I->Bel N (D.sl J 0 e1 O)->∃ n:Int,(I.cell 0)=D.lit (.int .i64 n)/\Br (n==5) (∀ a,N<=a->ACalls prog 99 [.str] [.sv J 0 e1 O,.str (bytes
 [32])] a (λs b=>a<=b->(4+s.size:Nat)<=9223372036854775807/\(ByteArray.size (bytes [40,105,102,32]++s)+1:Nat)<=9223372036854775807
 /\ ∀ a,b<=a->Q (bytes [40,105,102,32]++s++bytes [41]) a)) (Br (n==6) (∃ a,(I.cell 1)=D.lit (.string a)/\(2+a.size:Nat)<=9223372036854775807
 /\ (ByteArray.size (bytes [40,92]++a)+1:Nat)<=9223372036854775807/\((0:Int)<=(0:Int)/\0<(e1.length:Int))/\∃ b,List.getD e1 0 default=D.lit
 (.string b)/\∀ c,N<=c->ACalls prog 245 [.str] [.dg 2 (D.sub I 4 2)] c (λd e=>c<=e->(ByteArray.size (bytes [40,92]++a++bytes [58])
 + d.size:Nat)<=9223372036854775807/\(ByteArray.size (bytes [40,92]++a++bytes [58]++d)+1:Nat)<=9223372036854775807/\(ByteArray.size (bytes
 [40,92]++a++bytes [58]++d++bytes [46])+b.size:Nat)<=9223372036854775807/\(ByteArray.size (bytes [40,92]++a++bytes [58]++d++bytes
 [46]++b)+1:Nat)<=9223372036854775807/\∀ c,e<=c->Q (bytes [40,92]++a++bytes [58]++d++bytes [46]++b++bytes [41]) c)) (Br (n
 == 7) (∀ a,N<=a->ACalls prog 99 [.str] [.sv J 0 e1 O,.str (bytes [32])] a (λb c=>a<=c->(1+b.size:Nat)<=9223372036854775807/\(ByteArray.size
 (bytes [40]++b)+1:Nat)<=9223372036854775807/\∀ a,c<=a->Q (bytes [40]++b++bytes [41]) a)) (Br (n==8) (∃ a,(I.cell 1)=D.lit (.string
 a)/\(5+a.size:Nat)<=9223372036854775807/\(ByteArray.size (bytes [40,108,101,116,32]++a)+1:Nat)<=9223372036854775807/\∀ b,N<=b ->
 ACalls prog 99 [.str] [.sv J 0 e1 O,.str (bytes [32])] b (λc d=>b<=d->(ByteArray.size (bytes [40,108,101,116,32]++a++bytes [61])
 + c.size:Nat)<=9223372036854775807/\(ByteArray.size (bytes [40,108,101,116,32]++a++bytes [61]++c)+1:Nat)<=9223372036854775807/\∀ b,
 d<=b->Q (bytes [40,108,101,116,32]++a++bytes [61]++c++bytes [41]) b)) (Br (n==9) (∃ a,(I.cell 1)=D.lit (.string a)/\(5+a.size
 : Nat)<=9223372036854775807/\(ByteArray.size (bytes [40,114,101,99,32]++a)+1:Nat)<=9223372036854775807/\∃ b,(I.cell 2)=D.lit (.string b)
 /\ (ByteArray.size (bytes [40,114,101,99,32]++a++bytes [32])+b.size:Nat)<=9223372036854775807/\(ByteArray.size (bytes [40,114,101,99,32] ++
 a++bytes [32]++b)+1:Nat)<=9223372036854775807/\((0:Int)<=(0:Int)/\0<(e1.length:Int))/\∃ c,List.getD e1 0 default=D.lit (.string c)
 /\ ∀ d,N<=d->ACalls prog 245 [.str] [.dg 2 (D.sub I 4 2)] d (λe f=>d<=f->(ByteArray.size (bytes [40,114,101,99,32]++a++bytes
 [32]++b++bytes [58])+e.size:Nat)<=9223372036854775807/\(ByteArray.size (bytes [40,114,101,99,32]++a++bytes [32]++b++bytes [58] ++
 e)+1:Nat)<=9223372036854775807/\∀ d,f<=d->ACalls prog 245 [.str] [.dg 2 (D.sub I 6 2)] d (λf g=>d<=g->(ByteArray.size
 (bytes [40,114,101,99,32]++a++bytes [32]++b++bytes [58]++e++bytes [62])+f.size:Nat)<=9223372036854775807/\(ByteArray.size (bytes
 [40,114,101,99,32]++a++bytes [32]++b++bytes [58]++e++bytes [62]++f)+1:Nat)<=9223372036854775807/\(ByteArray.size (bytes [40,114,
 101,99,32]++a++bytes [32]++b++bytes [58]++e++bytes [62]++f++bytes [46])+c.size:Nat)<=9223372036854775807/\(ByteArray.size (bytes
 [40,114,101,99,32]++a++bytes [32]++b++bytes [58]++e++bytes [62]++f++bytes [46]++c)+1:Nat)<=9223372036854775807/\∀ d,g
 <= d->Q (bytes [40,114,101,99,32]++a++bytes [32]++b++bytes [58]++e++bytes [62]++f++bytes [46]++c++bytes [41]) d))) (Br
 (n==12) (((0:Int)<=(0:Int)/\0<(e1.length:Int))/\∃ a,List.getD e1 0 default=D.lit (.string a)/\(5+a.size:Nat)<=9223372036854775807
 /\ (ByteArray.size (bytes [40,114,117,110,32]++a)+1:Nat)<=9223372036854775807/\∀ b,N<=b->Q (bytes [40,114,117,110,32]++a++bytes
 [41]) b) (((0:Int)<=(0:Int)/\0<(e1.length:Int))/\∃ a,List.getD e1 0 default=D.lit (.string a)/\(6+a.size:Nat)<=9223372036854775807
 /\ (ByteArray.size (bytes [40,108,105,102,116,32]++a)+1:Nat)<=9223372036854775807/\∀ b,N<=b->Q (bytes [40,108,105,102,116,32]++a
 ++ bytes [41]) b))))))):ACalls prog 189 [.str] [PV.dg 9 I,PV.sv J 0 e1 O] N Q:=
  eE (H:=zIa) (by kernel_rfl) (by kernel_rfl) h
theorem zHK (N:Nat) (I:D) (Q:QT [.str]) (h :
Bel N I->wx Q N 0 0 0 I [] 0 N):ACalls prog 119 [.str] [PV.dg 9 I] N Q:=
 eE (H:=zBK) (by kernel_rfl) (by kernel_rfl) h
theorem zKt (N:Nat) (a0:Option Addr) (e0:List D) (c0:Nat) (I:ByteArray) (Q:QT [.str]) (h :
Bel N (D.sl a0 0 e0 c0)->∀ a,N<=a->ACalls prog 159 [.str] [.sv a0 0 e0 c0,.str I] a (λs b=>a<=b->∀ a,b<=a->Q s a)):ACalls prog 97 [.str] [PV.sv a0 0 e0 c0,PV.str I] N Q:=
 eE (H:=zKf) (by kernel_rfl) (by kernel_rfl) h
theorem vm (Q:QT [.str]) (N0:Nat) (a0:Option Addr) (e0:List D) (c0:Nat) (J:ByteArray) (O U:Nat) (I:Int) (r0:List D) (Y:Nat) (N:Nat) (h :
Br (decide (I<(e0.length:Int))) (Br (decide (I>0)) ((O=r0.length/\U=Y)/\zB r0 (yP J) 1/\∀ (c:Nat),(0<=I/\I<(e0.length:Int))
 /\ ∃ s,List.getD e0 I.toNat default=D.lit (.string s)/\((r0++yP J).length=(r0++yP J).length/\c=c)/\zB (r0++yP J) (yP s) 1
 /\ ∀ (a:Nat),xW Q N0 a0 e0 c0 J (r0++yP J++yP s).length a (IntKind.i64.wrap (I+1)) (r0++yP J++yP s) a N) ((0<=I
 /\ I<(e0.length:Int))/\∃ a,List.getD e0 I.toNat default=D.lit (.string a)/\(O=r0.length/\U=Y)/\zB r0 (yP a) 1/\∀ (b:Nat),
 xW Q N0 a0 e0 c0 J (r0++yP a).length b (IntKind.i64.wrap (I+1)) (r0++yP a) b N)) (O<=r0.length/\∃ a:List Int,List.take
 O r0=List.map (λn=>D.lit (.int IntKind.u8 n)) a/\∀ b,N<=b->Q (bytesOf a) b)):xW Q N0 a0 e0 c0 J O U I r0 Y N:=
  hE (H:=zEp) (by kernel_rfl) h
theorem rt (Q:QT [.str]) (N0:Nat) (J U:Nat) (O:Int) (I:D) (r1:List D) (Y:Nat) (N:Nat) (h :
∃ a b,∃ c:Nat,(I.cell 8)=D.sl a 9 b c/\Br (decide (O<(b.length:Int))) (∃ a b,∃ c:Nat,(I.cell 8)=D.sl a 9 b c/\(0<=O/\O
 < (b.length:Int))/\∀ a,N<=a->ACalls prog 119 [.str] [.dg 9 (List.getD b O.toNat default)] a (λs b=>a<=b->(J=r1.length/\U=Y)
 /\ zB r1 [D.lit (.string s)] 16/\∀ (a:Nat),wx Q N0 (r1++[D.lit (.string s)]).length a (IntKind.i64.wrap (O+1)) I (r1++[D.lit (.string
 s)]) a b)) (∃ n:Int,(I.cell 0)=D.lit (.int .i64 n)/\Br (n==1) (∃ a,(I.cell 1)=D.lit (.string a)/\∀ b,N<=b->Q a b) (Br (n==2) (∃
 a:Int,(I.cell 3)=D.lit (.int .i64 a)/\∀ b,N<=b->ACalls prog 188 [.str] [.int .i64 a] b (λa c=>b<=c->∀ b,c<=b->Q a
 b)) (Br (n==3) (∃ a:Int,(I.cell 3)=D.lit (.int .i64 a)/\∃ b:Int,(I.cell 3)=D.lit (.int .i64 b)/\(0<=a/\a<=IntKind.i64.wrap (b
 + 1)/\IntKind.i64.wrap (b+1)<=2)/\(1+ByteArray.size (ByteArray.extract (bytes [102,116]) a.toNat (IntKind.i64.wrap (b+1)).toNat):Nat)<=9223372036854775807
 /\ ∀ c,N<=c->Q (bytes [35]++ByteArray.extract (bytes [102,116]) a.toNat (IntKind.i64.wrap (b+1)).toNat) c) (Br (n==4) (Br ((J:Int)==1) (((0
 : Int)<=(0:Int)/\0<(J:Int)/\0<r1.length)/\0<r1.length/\∃ a,List.getD r1 0 default=D.lit (.string a)/\(2+a.size:Nat)<=9223372036854775807
 /\ (ByteArray.size (bytes [40,33]++a)+1:Nat)<=9223372036854775807/\∀ b,N<=b->Q (bytes [40,33]++a++bytes [41]) b) (((0:Int)<=(0:Int)
 /\ 0<(J:Int)/\0<r1.length)/\0<r1.length/\∃ a,List.getD r1 0 default=D.lit (.string a)/\(1+a.size:Nat)<=9223372036854775807/\∃ b,(I.cell
 1)=D.lit (.string b)/\(ByteArray.size (bytes [40]++a)+b.size:Nat)<=9223372036854775807/\((0:Int)<=(1:Int)/\1<(J:Int)/\1<r1.length)
 /\ 1<r1.length/\∃ c,List.getD r1 1 default=D.lit (.string c)/\(ByteArray.size (bytes [40]++a++b)+c.size:Nat)<=9223372036854775807/\(ByteArray.size
 (bytes [40]++a++b++c)+1:Nat)<=9223372036854775807/\∀ d,N<=d->Q (bytes [40]++a++b++c++bytes [41]) d)) (Br (n==10) (((0
 : Int)<=(0:Int)/\0<(J:Int)/\0<r1.length)/\0<r1.length/\∃ a,List.getD r1 0 default=D.lit (.string a)/\(1+a.size:Nat)<=9223372036854775807
 /\ (ByteArray.size (bytes [60]++a)+1:Nat)<=9223372036854775807/\∀ b,N<=b->Q (bytes [60]++a++bytes [62]) b) (Br (n==11) (((0:Int) <=
 (0:Int)/\0<(J:Int)/\0<r1.length)/\0<r1.length/\∃ a,List.getD r1 0 default=D.lit (.string a)/\(1+a.size:Nat)<=9223372036854775807 /\
 ∀ b,N<=b->Q (bytes [126]++a) b) ((J=r1.length/\U=Y)/\∀ a,ApA a r1->Off [a] I->∀ b,N<=b->wL b [a]->ACalls prog
 189 [.str] [.dg 9 I,.sv a 0 r1 U] b (λa c=>b<=c->∀ b,c<=b->Q a b))))))))):wx Q N0 J U O I r1 Y N:=
  hE (H:=zBK) (by kernel_rfl) h
end Go.Proofs.YtmfjakahanbnlaaGreatDoor
