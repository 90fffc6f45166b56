/- Printed by gen.py: what the functions come to. -/
import Derived.Test.YtmfjakahanbnlaaGreatDoorJh
set_option linter.unusedVariables false
set_option maxRecDepth 100000
namespace Go.Proofs.YtmfjakahanbnlaaGreatDoor
open Go Go.Proofs Go.Proofs.Tryz
def zB5:Hint:=⟨[],[],[]⟩
def wH:Hint:=⟨[hc 2 [0,1,7,8]],[],[]⟩
def vi:Hint:=⟨[],[],[]⟩
def sH:Hint:=⟨[hc 2 [0,6,7]],[],[]⟩
def w4:Hint:=⟨[hc 3 [3,7,8,9]],[],[(5,hs 5 [ec 2 [14]])]⟩
def wh:Hint:=⟨[hc 3 [3,7,8,9]],[],[(5,hs 5 [ec 2 [14]])]⟩
def uv:Hint:=⟨[],[],[(1,[en 0,en 1,eh 2,en 3,en 4,en 5,en 6,en 7,en 8,en 9,en 10,en 11,en 12,en 13,en 14,en 15])]⟩
def su:Hint:=⟨[],[],[(1,hs 5 [ec 2 [4]])]⟩
def xI:Hint:=⟨[hc 2 [0,1,7,8]],[],[(4,hs 6 [ec 5 [15]])]⟩
def wT:Hint:=⟨[],[],[]⟩
def qA:Hint:=⟨[],[],[(1,hs 11 [ec 2 [6]])]⟩
def t7:Hint:=⟨[],[],[(1,hs 13 [ec 1 [3],ec 5 [7],ec 10 [12]])]⟩
def zAT:Hint:=⟨[],[],[]⟩
def zCm:Hint:=⟨[],[],[]⟩
def qK:Hint:=⟨[],[],[]⟩
def zAC:Hint:=⟨[],[],[(12,hs 9 [ec 6 [34]]),(14,hs 26 [ec 18 [56],ec 23 [61]])]⟩
def xP:Hint:=⟨[hc 4 [1,2,15,16,17]],[],[(7,hs 5 [ec 3 [27,28]])]⟩
def rg:Hint:=⟨[],[],[]⟩
def zA5:Hint:=⟨[],[],[(1,[en 0,en 1,en 2,en 3,ec 4 [7],en 5]),(14,[en 0,en 1,en 2,en 3,en 4,eh 5,en 6,eh 7]),(16,[en 0,en 1,en 2,en 3,en 4,en 5,en 6,en 7,en 8,eh 9,en 10,eh 11,en 12,eh 13,en 14,eh 15]),(17,hs 38 [ec 1 [54],ec 28 [79,81],ec 35 [86,88]])]⟩
def si:Hint:=⟨[],[],[(1,hs 5 [ec 2 [4]])]⟩
def xS:Hint:=⟨[hc 2 [0,1,7,8]],[],[(4,hs 6 [ec 5 [15]])]⟩
def wW:Hint:=⟨[],[],[]⟩
def pq:Hint:=⟨[],[],[(1,hs 11 [ec 2 [6]])]⟩
def zB0:Hint:=⟨[],[],[(1,hs 3 [ec 1 [3]])]⟩
def wJ:Hint:=⟨[hc 3 [2,3,10,11,12]],[],[(5,[en 0,en 1,en 2,ec 3 [18],en 4,eh 5,en 6,eh 7])]⟩
def zl (Q:QT [.int .i64]) (N0:Nat) (a0:Option Addr) (e0:List D) (c0:Nat) (s1:ByteArray) (n7 n8:Int) (N:Nat):Prop:=AT prog 241 [.int .i64] Q N0 .ord (zF prog 241 2) ⟨.sv a0 0 e0 c0::.str s1::an 5 (.int .i64 n7::.int .i64 n8::an 10 []),[],N,none⟩
def z6 (Q:QT [.bool]) (N0:Nat) (s0:ByteArray) (n6 n7:Int) (N:Nat):Prop:=AT prog 237 [.bool] Q N0 .ord (zF prog 237 2) ⟨.str s0::an 5 (.int .i64 n6::.int .i64 n7::an 40 []),[],N,none⟩
def yB (Q:QT [.int .i64]) (N0:Nat) (n3:Int) (a7:Option Addr) (e7:List D) (c7:Nat) (n8 n9:Int) (N:Nat):Prop:=AT prog 275 [.int .i64] Q N0 .ord (zF prog 275 3) ⟨an 3 (.int .i64 n3::an 3 (.sv a7 2 e7 c7::.int .i64 n8::.int .i64 n9::an 9 [])),[],N,none⟩
def zt (Q:QT [.int .i64]) (N0:Nat) (n3:Int) (a7:Option Addr) (e7:List D) (c7:Nat) (n8 n9:Int) (N:Nat):Prop:=AT prog 276 [.int .i64] Q N0 .ord (zF prog 276 3) ⟨an 3 (.int .i64 n3::an 3 (.sv a7 2 e7 c7::.int .i64 n8::.int .i64 n9::an 10 [])),[],N,none⟩
def xX (Q:QT [.ag 2]) (N0:Nat) (a10:Option Addr) (e10:List D) (c10:Nat) (n11 n12 n0_0:Int) (a0_1:Option Addr) (e0_1:List D) (c0_1:Nat) (n1_0:Int) (a1_1:Option Addr) (e1_1:List D) (c1_1:Nat) (N:Nat):Prop:=AT prog 226 [.ag 2] Q N0 .ord (zF prog 226 3) ⟨an 2 (.pb 0 0 0 0::.pb 1 0 0 0::an 6 (.sv a10 2 e10 c10::.int .i64 n11::.int .i64 n12::an 12 [])),[.var [.int .i64 n0_0,.sv a0_1 2 e0_1 c0_1],.var [.int .i64 n1_0,.sv a1_1 2 e1_1 c1_1]],N,none⟩
def zL (Q:QT [.bool]) (N0:Nat) (a1:Option Addr) (e1:List D) (c1:Nat) (a15:Option Addr) (e15:List D) (c15:Nat) (n16 n17:Int) (N:Nat):Prop:=AT prog 180 [.bool] Q N0 .ord (zF prog 180 4) ⟨an 1 (.sv a1 2 e1 c1::.fn 113 []::an 12 (.sv a15 2 e15 c15::.int .i64 n16::.int .i64 n17::an 14 [])),[],N,none⟩
def zr (Q:QT [.ag 2]) (N0:Nat) (a10:Option Addr) (e10:List D) (c10:Nat) (n11 n12 n0_0:Int) (a0_1:Option Addr) (e0_1:List D) (c0_1:Nat) (n1_0:Int) (m1_1 c1_1:Nat) (r2:List D) (q2:Nat) (N:Nat):Prop:=AT prog 226 [.ag 2] Q N0 .ord (zF prog 226 3) ⟨an 2 (.pb 0 0 0 0::.pb 1 0 0 0::an 6 (.sv a10 2 e10 c10::.int .i64 n11::.int .i64 n12::an 12 [])),[.var [.int .i64 n0_0,.sv a0_1 2 e0_1 c0_1],.var [.int .i64 n1_0,.sb 2 2 0 m1_1 c1_1],.arr 32 2 r2 q2],N,none⟩
def zZ (Q:QT [.int .i64]) (N0:Nat) (a0:Option Addr) (e0:List D) (c0:Nat) (a1_0:Addr) (n7 n8:Int) (N:Nat):Prop:=AT prog 296 [.int .i64] Q N0 .ord (zF prog 296 2) ⟨.sv a0 2 e0 c0::.fn 281 [.pd a1_0 0 (.fn 277 [])]::an 5 (.int .i64 n7::.int .i64 n8::an 10 []),[],N,none⟩
def zX (Q:QT [.int .i64]) (N0:Nat) (a0:Option Addr) (e0:List D) (c0:Nat) (a1_0:Addr) (n7 n8:Int) (N:Nat):Prop:=AT prog 235 [.int .i64] Q N0 .ord (zF prog 235 2) ⟨.sv a0 9 e0 c0::.fn 177 [.pd a1_0 0 (.fn 112 [])]::an 5 (.int .i64 n7::.int .i64 n8::an 10 []),[],N,none⟩
theorem zBv (N:Nat) (n0 n1 n2:Int) (Q:QT [.bool]) (h :
Br (decide (n1<=n0)) (∀ a,N<=a->Q (decide (n0<=n2)) a) (∀ a,N<=a->Q false a)):ACalls prog 65 [.bool] [PV.int .i64 n0,PV.int .i64 n1,PV.int .i64 n2] N Q:=
 eE (H:=zB5) (by kernel_rfl) (by kernel_rfl) h
theorem tR (N:Nat) (a0:Option Addr) (e0:List D) (c0:Nat) (s1:ByteArray) (Q:QT [.int .i64]) (h :
Bel N (D.sl a0 0 e0 c0)->zl Q N a0 e0 c0 s1 (e0.length:Int) 0 N):ACalls prog 241 [.int .i64] [PV.sv a0 0 e0 c0,PV.str s1] N Q:=
 eE (H:=wH) (by kernel_rfl) (by kernel_rfl) h
theorem vl (N:Nat) (a0:Option Addr) (e0:List D) (c0:Nat) (s1:ByteArray) (Q:QT [.bool]) (h :
Bel N (D.sl a0 0 e0 c0)->∀ a,N<=a->ACalls prog 241 [.int .i64] [.sv a0 0 e0 c0,.str s1] a (fun n b=>a<=b->∀ a,b<=a->Q (decide (n ≥
 0)) a)):ACalls prog 184 [.bool] [PV.sv a0 0 e0 c0,PV.str s1] N Q:=
  eE (H:=vi) (by kernel_rfl) (by kernel_rfl) h
theorem zBi (N:Nat) (s0:ByteArray) (Q:QT [.bool]) (h :
z6 Q N s0 (s0.size:Int) 0 N):ACalls prog 237 [.bool] [PV.str s0] N Q:=
 eE (H:=sH) (by kernel_rfl) (by kernel_rfl) h
theorem sx (N:Nat) (x0:D) (Q:QT [.int .i64]) (h :
Bel N x0->∃ a b,∃ c:Nat,(x0.cell 1)=D.sl a 2 b c/\yB Q N 1 a b c (b.length:Int) 0 N):ACalls prog 275 [.int .i64] [PV.dg 2 x0] N Q:=
 eE (H:=w4) (by kernel_rfl) (by kernel_rfl) h
theorem sE (N:Nat) (x0:D) (Q:QT [.int .i64]) (h :
Bel N x0->∃ a b,∃ c:Nat,(x0.cell 1)=D.sl a 2 b c/\zt Q N 0 a b c (b.length:Int) 0 N):ACalls prog 276 [.int .i64] [PV.dg 2 x0] N Q:=
 eE (H:=wh) (by kernel_rfl) (by kernel_rfl) h
theorem uu (N:Nat) (x0:D) (Q:QT [.bool]) (h :
Bel N x0->∃ n:Int,(x0.cell 0)=D.lit (.int .i64 n)/\∀ d,N<=d->ACalls prog 65 [.bool] [.int .i64 n,.int .i64 1,.int .i64 4] d (fun b e=>d <=
 e->Br b (∃ a b,∃ c:Nat,(x0.cell 1)=D.sl a 2 b c/\∃ a:Int,(x0.cell 0)=D.lit (.int .i64 a)/\(0<=IntKind.i64.wrap (a - 1)/\IntKind.i64.wrap
 (a - 1)<4/\(0+(IntKind.i64.wrap (a - 1)).toNat:Nat)<4)/\(0+(IntKind.i64.wrap (a - 1)).toNat:Nat)<4/\∃ c:Int,List.getD [D.lit (.int .i64
 0),D.lit (.int .i64 0),D.lit (.int .i64 2),D.lit (.int .i64 1)] (0+(IntKind.i64.wrap (a - 1)).toNat:Nat) default=D.lit (.int .i64 c)/\∀ a,e <=
 a->Q ((b.length:Int)==c) a) (∀ a,e<=a->Q false a))):ACalls prog 277 [.bool] [PV.dg 2 x0] N Q:=
  eE (H:=uv) (by kernel_rfl) (by kernel_rfl) h
theorem sN (N:Nat) (x0:D) (Q:QT [.bool]) (h :
Bel N x0->∀ a,N<=a->ACalls prog 275 [.int .i64] [.dg 2 x0] a (fun n c=>a<=c->Br (decide (n<=30)) (∀ a,c<=a->ACalls prog 276 [.int .i64]
 [.dg 2 x0] a (fun c d=>a<=d->Br (decide (c<=8)) (∀ a,d<=a->ACalls prog 251 [.bool] [.dg 2 x0,.fn 277 []] a (fun b c=>a<=c ->
 ∀ a,c<=a->Q b a)) (∀ a,d<=a->Q false a))) (∀ a,c<=a->Q false a))):ACalls prog 239 [.bool] [PV.dg 2 x0] N Q:=
  eE (H:=t7) (by kernel_rfl) (by kernel_rfl) h
theorem zAB (N:Nat) (s0:ByteArray) (Q:QT [.int .i64]) (h :
Br (ByteArray.toList s0==ByteArray.toList (bytes [43])) (∀ a,N<=a->Q 2 a) (Br (ByteArray.toList s0==ByteArray.toList (bytes [45])) (∀ a,N<=a ->
 Q 2 a) (Br (ByteArray.toList s0==ByteArray.toList (bytes [42])) (∀ a,N<=a->Q 2 a) (Br (ByteArray.toList s0==ByteArray.toList (bytes [61])) (∀ a,
 N<=a->Q 2 a) (Br (ByteArray.toList s0==ByteArray.toList (bytes [60])) (∀ a,N<=a->Q 2 a) (Br (ByteArray.toList s0==ByteArray.toList (bytes [38]))
 (∀ a,N<=a->Q 2 a) (Br (ByteArray.toList s0==ByteArray.toList (bytes [124])) (∀ a,N<=a->Q 2 a) (Br (ByteArray.toList s0==ByteArray.toList (bytes
 [33])) (∀ a,N<=a->Q 1 a) (∀ a,N<=a->Q 0 a))))))))):ACalls prog 236 [.int .i64] [PV.str s0] N Q:=
  eE (H:=zAT) (by kernel_rfl) (by kernel_rfl) h
theorem zCv (N:Nat) (x0:D) (Q:QT [.int .i64]) (h :
Bel N x0->∃ n:Int,(x0.cell 0)=D.lit (.int .i64 n)/\Br (n==4) (∃ s,(x0.cell 1)=D.lit (.string s)/\∀ a,N<=a->ACalls prog 236 [.int .i64] [.str
 s] a (fun b c=>a<=c->∀ a,c<=a->Q b a)) (Br (n==5) (∀ a,N<=a->Q 3 a) (Br (n==7) (∀ a,N<=a->Q 2 a) (Br (n==8) (∀
 a,N<=a->Q 2 a) (Br (n==6) (∀ a,N<=a->Q 1 a) (Br (n==9) (∀ a,N<=a->Q 1 a) (Br (n==10) (∀ a,N<=a->Q 1 a) (Br (n==11) (∀
 a,N<=a->Q 1 a) (Br (n==12) (∀ a,N<=a->Q 1 a) (Br (n==13) (∀ a,N<=a->Q 1 a) (∀ a,N<=a->Q 0 a))))))))))):ACalls prog 178 [.int .i64] [PV.dg 9 x0] N Q:=
  eE (H:=zCm) (by kernel_rfl) (by kernel_rfl) h
theorem qN (N:Nat) (n0:Int) (Q:QT [.bool]) (h :
∀ a,N<=a->ACalls prog 65 [.bool] [.int .i64 n0,.int .i64 0,.int .i64 10006] a (fun b c=>a<=c->∀ a,c<=a->Q b a)):ACalls prog 238 [.bool] [PV.int .i64 n0] N Q:=
  eE (H:=qK) (by kernel_rfl) (by kernel_rfl) h
theorem zAF (N:Nat) (x0:D) (Q:QT [.bool]) (h :
Bel N x0->∃ n:Int,(x0.cell 0)=D.lit (.int .i64 n)/\Br (n==1) (∃ s,(x0.cell 1)=D.lit (.string s)/\∀ a,N<=a->ACalls prog 237 [.bool] [.str s] a
 (fun b c=>a<=c->∀ a,c<=a->Q b a)) (Br (n==8) (∃ a,(x0.cell 1)=D.lit (.string a)/\∀ b,N<=b->ACalls prog 237 [.bool] [.str a]
 b (fun a c=>b<=c->∀ b,c<=b->Q a b)) (Br (n==2) (∃ a:Int,(x0.cell 3)=D.lit (.int .i64 a)/\∀ b,N<=b->ACalls prog 238
 [.bool] [.int .i64 a] b (fun a c=>b<=c->∀ b,c<=b->Q a b)) (Br (n==3) (∃ a:Int,(x0.cell 3)=D.lit (.int .i64 a)/\∀ b,N
 <= b->ACalls prog 65 [.bool] [.int .i64 a,.int .i64 0,.int .i64 1] b (fun a c=>b<=c->∀ b,c<=b->Q a b)) (Br (n==4) (∃
 a,(x0.cell 1)=D.lit (.string a)/\∀ b,N<=b->ACalls prog 236 [.int .i64] [.str a] b (fun a c=>b<=c->∀ b,c<=b->Q (decide
 (a>0)) b)) (Br (n==6) (∃ a,(x0.cell 1)=D.lit (.string a)/\∀ b,N<=b->ACalls prog 237 [.bool] [.str a] b (fun a c=>b<=c
 -> Br a (∀ a,c<=a->ACalls prog 239 [.bool] [.dg 2 (D.sub x0 4 2)] a (fun b c=>a<=c->∀ a,c<=a->Q b a)) (∀ a,c
 <= a->Q false a))) (Br (n==9) (∃ a,(x0.cell 1)=D.lit (.string a)/\∀ b,N<=b->ACalls prog 237 [.bool] [.str a] b (fun a c=>b
 <= c->Br a (∃ a,(x0.cell 2)=D.lit (.string a)/\∀ b,c<=b->ACalls prog 237 [.bool] [.str a] b (fun a c=>b<=c->Br a (∃
 a,(x0.cell 1)=D.lit (.string a)/\∃ b,(x0.cell 2)=D.lit (.string b)/\Br (!(ByteArray.toList a==ByteArray.toList b)) (∀ a,c<=a->ACalls
 prog 239 [.bool] [.dg 2 (D.sub x0 4 2)] a (fun b c=>a<=c->Br b (∀ a,c<=a->ACalls prog 239 [.bool] [.dg 2 (D.sub x0 6 2)] a (fun
 b c=>a<=c->∀ a,c<=a->Q b a)) (∀ a,c<=a->Q false a))) (∀ a,c<=a->Q false a)) (∀ a,c<=a ->
 Q false a))) (∀ a,c<=a->Q false a))) (∃ a:Int,(x0.cell 0)=D.lit (.int .i64 a)/\∀ b,N<=b->ACalls prog 65 [.bool] [.int .i64 a,
 .int .i64 1,.int .i64 13] b (fun a c=>b<=c->∀ b,c<=b->Q a b))))))))):ACalls prog 179 [.bool] [PV.dg 9 x0] N Q:=
  eE (H:=zAC) (by kernel_rfl) (by kernel_rfl) h
theorem rX (N:Nat) (x0 x1:D) (Q:QT [.bool]) (h :
Bel N x0->Bel N x1->∃ n:Int,(x0.cell 0)=D.lit (.int .i64 n)/\∃ d:Int,(x1.cell 0)=D.lit (.int .i64 d)/\Br (n==d) (∃ a d,∃ c:Nat,(x0.cell
 1)=D.sl a 2 d c/\∃ e f,∃ g:Nat,(x1.cell 1)=D.sl e 2 f g/\∀ h,N<=h->ACalls prog 180 [.bool] [.sv a 2 d c,.sv e 2 f g,.fn
 113 []] h (fun b a=>h<=a->∀ c,a<=c->Q b c)) (∀ a,N<=a->Q false a)):ACalls prog 113 [.bool] [PV.dg 2 x0,PV.dg 2 x1] N Q:=
  eE (H:=rg) (by kernel_rfl) (by kernel_rfl) h
theorem zCD (N:Nat) (x0:D) (Q:QT [.bool]) (h :
Bel N x0->∃ a d,∃ c:Nat,(x0.cell 8)=D.sl a 9 d c/\∀ a,N<=a->ACalls prog 178 [.int .i64] [.dg 9 x0] a (fun n c=>a<=c->Br (bne (d.length
 : Int) n) (∀ a,c<=a->Q false a) (∃ a:Int,(x0.cell 0)=D.lit (.int .i64 a)/\∃ a:Int,(x0.cell 0)=D.lit (.int .i64 a)/\Br (a==1) (∃
 s,(x0.cell 1)=D.lit (.string s)/\∀ a,c<=a->ACalls prog 179 [.bool] [.dg 9 x0] a (fun b c=>a<=c->Br b (∃ a,(x0.cell 1)=D.lit (.string
 a)/\Br (ByteArray.toList a==ByteArray.toList s) (∃ a,(x0.cell 2)=D.lit (.string a)/\Br (ByteArray.toList a==ByteArray.toList (bytes [])) (∃ a
 : Int,(x0.cell 3)=D.lit (.int .i64 a)/\Br (a==0) (∀ a,c<=a->ACalls prog 113 [.bool] [.dg 2 (D.sub x0 4 2),.dg 2 (D.ag [D.lit (.int .i64 0),D.sl
 Option.none 2 [] 0])] a (fun b c=>a<=c->Br b (∀ a,c<=a->ACalls prog 113 [.bool] [.dg 2 (D.sub x0 6 2),.dg 2 (D.ag [D.lit (.int .i64 0),
 D.sl Option.none 2 [] 0])] a (fun b c=>a<=c->∀ a,c<=a->Q b a)) (∀ a,c<=a->Q false a))) (∀ a,c<=a->Q false
 a)) (∀ a,c<=a->Q false a)) (∀ a,c<=a->Q false a)) (∀ a,c<=a->Q false a))) (Br (a==8) (∃ a,(x0.cell 1)=D.lit
 (.string a)/\∀ b,c<=b->ACalls prog 179 [.bool] [.dg 9 x0] b (fun c d=>b<=d->Br c (∃ b,(x0.cell 1)=D.lit (.string b)/\Br
 (ByteArray.toList b==ByteArray.toList a) (∃ a,(x0.cell 2)=D.lit (.string a)/\Br (ByteArray.toList a==ByteArray.toList (bytes [])) (∃ a:Int,
 (x0.cell 3)=D.lit (.int .i64 a)/\Br (a==0) (∀ a,d<=a->ACalls prog 113 [.bool] [.dg 2 (D.sub x0 4 2),.dg 2 (D.ag [D.lit (.int .i64 0),D.sl
 Option.none 2 [] 0])] a (fun b c=>a<=c->Br b (∀ a,c<=a->ACalls prog 113 [.bool] [.dg 2 (D.sub x0 6 2),.dg 2 (D.ag [D.lit (.int .i64
 0),D.sl Option.none 2 [] 0])] a (fun b c=>a<=c->∀ a,c<=a->Q b a)) (∀ a,c<=a->Q false a))) (∀ a,d<=a
 -> Q false a)) (∀ a,d<=a->Q false a)) (∀ a,d<=a->Q false a)) (∀ a,d<=a->Q false a))) (Br (a==2) (∃ a:Int,
 (x0.cell 3)=D.lit (.int .i64 a)/\∀ b,c<=b->ACalls prog 179 [.bool] [.dg 9 x0] b (fun c d=>b<=d->Br c (∃ b,(x0.cell 1)=D.lit
 (.string b)/\Br (ByteArray.toList b==ByteArray.toList (bytes [])) (∃ b,(x0.cell 2)=D.lit (.string b)/\Br (ByteArray.toList b==ByteArray.toList
 (bytes [])) (∃ b:Int,(x0.cell 3)=D.lit (.int .i64 b)/\Br (b==a) (∀ a,d<=a->ACalls prog 113 [.bool] [.dg 2 (D.sub x0 4 2),.dg 2 (D.ag
 [D.lit (.int .i64 0),D.sl Option.none 2 [] 0])] a (fun b c=>a<=c->Br b (∀ a,c<=a->ACalls prog 113 [.bool] [.dg 2 (D.sub x0 6 2),
 .dg 2 (D.ag [D.lit (.int .i64 0),D.sl Option.none 2 [] 0])] a (fun b c=>a<=c->∀ a,c<=a->Q b a)) (∀ a,c<=a->Q false
 a))) (∀ a,d<=a->Q false a)) (∀ a,d<=a->Q false a)) (∀ a,d<=a->Q false a)) (∀ a,d<=a->Q false a)))
 (Br (a==3) (∃ a:Int,(x0.cell 3)=D.lit (.int .i64 a)/\∀ b,c<=b->ACalls prog 179 [.bool] [.dg 9 x0] b (fun c d=>b<=d->Br
 c (∃ b,(x0.cell 1)=D.lit (.string b)/\Br (ByteArray.toList b==ByteArray.toList (bytes [])) (∃ b,(x0.cell 2)=D.lit (.string b)/\Br (ByteArray.toList
 b==ByteArray.toList (bytes [])) (∃ b:Int,(x0.cell 3)=D.lit (.int .i64 b)/\Br (b==a) (∀ a,d<=a->ACalls prog 113 [.bool] [.dg 2 (D.sub
 x0 4 2),.dg 2 (D.ag [D.lit (.int .i64 0),D.sl Option.none 2 [] 0])] a (fun b c=>a<=c->Br b (∀ a,c<=a->ACalls prog 113 [.bool]
 [.dg 2 (D.sub x0 6 2),.dg 2 (D.ag [D.lit (.int .i64 0),D.sl Option.none 2 [] 0])] a (fun b c=>a<=c->∀ a,c<=a->Q b a)) (∀ a,
 c<=a->Q false a))) (∀ a,d<=a->Q false a)) (∀ a,d<=a->Q false a)) (∀ a,d<=a->Q false a)) (∀ a,d<=a
 -> Q false a))) (Br (a==4) (∃ a,(x0.cell 1)=D.lit (.string a)/\∀ b,c<=b->ACalls prog 179 [.bool] [.dg 9 x0] b (fun c d=>b
 <= d->Br c (∃ b,(x0.cell 1)=D.lit (.string b)/\Br (ByteArray.toList b==ByteArray.toList a) (∃ a,(x0.cell 2)=D.lit (.string a) /\
 Br (ByteArray.toList a==ByteArray.toList (bytes [])) (∃ a:Int,(x0.cell 3)=D.lit (.int .i64 a)/\Br (a==0) (∀ a,d<=a->ACalls prog 113
 [.bool] [.dg 2 (D.sub x0 4 2),.dg 2 (D.ag [D.lit (.int .i64 0),D.sl Option.none 2 [] 0])] a (fun b c=>a<=c->Br b (∀ a,c<=a->ACalls
 prog 113 [.bool] [.dg 2 (D.sub x0 6 2),.dg 2 (D.ag [D.lit (.int .i64 0),D.sl Option.none 2 [] 0])] a (fun b c=>a<=c->∀ a,c<=a->Q
 b a)) (∀ a,c<=a->Q false a))) (∀ a,d<=a->Q false a)) (∀ a,d<=a->Q false a)) (∀ a,d<=a->Q false a))
 (∀ a,d<=a->Q false a))) (Br (a==6) (∃ a,(x0.cell 1)=D.lit (.string a)/\∀ b,c<=b->ACalls prog 179 [.bool] [.dg 9 x0] b
 (fun c d=>b<=d->Br c (∃ b,(x0.cell 1)=D.lit (.string b)/\Br (ByteArray.toList b==ByteArray.toList a) (∃ a,(x0.cell 2) =
 D.lit (.string a)/\Br (ByteArray.toList a==ByteArray.toList (bytes [])) (∃ a:Int,(x0.cell 3)=D.lit (.int .i64 a)/\Br (a==0) (∀ a,d
 <= a->ACalls prog 113 [.bool] [.dg 2 (D.sub x0 4 2),.dg 2 (D.ag [D.cell (D.sub x0 4 2) 0,D.cell (D.sub x0 4 2) 1])] a (fun b c=>a<=c->Br
 b (∀ a,c<=a->ACalls prog 113 [.bool] [.dg 2 (D.sub x0 6 2),.dg 2 (D.ag [D.lit (.int .i64 0),D.sl Option.none 2 [] 0])] a (fun b c=>a
 <= c->∀ a,c<=a->Q b a)) (∀ a,c<=a->Q false a))) (∀ a,d<=a->Q false a)) (∀ a,d<=a->Q false a)) (∀
 a,d<=a->Q false a)) (∀ a,d<=a->Q false a))) (Br (a==9) (∃ a,(x0.cell 1)=D.lit (.string a)/\∃ b,(x0.cell 2)=D.lit
 (.string b)/\∀ d,c<=d->ACalls prog 179 [.bool] [.dg 9 x0] d (fun c e=>d<=e->Br c (∃ c,(x0.cell 1)=D.lit (.string c)
 /\ Br (ByteArray.toList c==ByteArray.toList a) (∃ a,(x0.cell 2)=D.lit (.string a)/\Br (ByteArray.toList a==ByteArray.toList b) (∃ a :
 Int,(x0.cell 3)=D.lit (.int .i64 a)/\Br (a==0) (∀ a,e<=a->ACalls prog 113 [.bool] [.dg 2 (D.sub x0 4 2),.dg 2 (D.ag [D.cell (D.sub x0 4
 2) 0,D.cell (D.sub x0 4 2) 1])] a (fun b c=>a<=c->Br b (∀ a,c<=a->ACalls prog 113 [.bool] [.dg 2 (D.sub x0 6 2),.dg 2 (D.ag [D.cell
 (D.sub x0 6 2) 0,D.cell (D.sub x0 6 2) 1])] a (fun b c=>a<=c->∀ a,c<=a->Q b a)) (∀ a,c<=a->Q false a))) (∀ a,
 e<=a->Q false a)) (∀ a,e<=a->Q false a)) (∀ a,e<=a->Q false a)) (∀ a,e<=a->Q false a))) (∀ a,c<=a
 -> ACalls prog 179 [.bool] [.dg 9 x0] a (fun b c=>a<=c->Br b (∃ a,(x0.cell 1)=D.lit (.string a)/\Br (ByteArray.toList a==ByteArray.toList
 (bytes [])) (∃ a,(x0.cell 2)=D.lit (.string a)/\Br (ByteArray.toList a==ByteArray.toList (bytes [])) (∃ a:Int,(x0.cell 3)=D.lit (.int .i64
 a)/\Br (a==0) (∀ a,c<=a->ACalls prog 113 [.bool] [.dg 2 (D.sub x0 4 2),.dg 2 (D.ag [D.lit (.int .i64 0),D.sl Option.none 2 [] 0])] a (fun
 b c=>a<=c->Br b (∀ a,c<=a->ACalls prog 113 [.bool] [.dg 2 (D.sub x0 6 2),.dg 2 (D.ag [D.lit (.int .i64 0),D.sl Option.none 2 []
 0])] a (fun b c=>a<=c->∀ a,c<=a->Q b a)) (∀ a,c<=a->Q false a))) (∀ a,c<=a->Q false a)) (∀ a,
 c<=a->Q false a)) (∀ a,c<=a->Q false a)) (∀ a,c<=a->Q false a)))))))))))):ACalls prog 112 [.bool] [PV.dg 9 x0] N Q:=
  eE (H:=zA5) (by kernel_rfl) (by kernel_rfl) h
theorem zBP (N:Nat) (x0:D) (Q:QT [.bool]) (h :
Bel N x0->∀ a,N<=a->ACalls prog 111 [.bool] [.dg 9 x0,.fn 112 []] a (fun b c=>a<=c->∀ a,c<=a->Q b a)):ACalls prog 50 [.bool] [PV.dg 9 x0] N Q:=
 eE (H:=zB0) (by kernel_rfl) (by kernel_rfl) h
theorem pM (N:Nat) (x0:D) (Q:QT [.ag 2]) (h :
Bel N x0->∃ n:Int,(x0.cell 0)=D.lit (.int .i64 n)/\∃ a b,∃ c:Nat,(x0.cell 1)=D.sl a 2 b c/\xX Q N a b c (b.length:Int) 0 0 Option.none
 [] 0 n Option.none [] 0 N):ACalls prog 226 [.ag 2] [PV.dg 2 x0] N Q:=
  eE (H:=wJ) (by kernel_rfl) (by kernel_rfl) h
theorem xj (Q:QT [.int .i64]) (N0:Nat) (a0:Option Addr) (e0:List D) (c0:Nat) (s1:ByteArray) (n7 n8:Int) (N:Nat) (h :
Br (decide (n8<n7)) ((0<=n8/\n8<(e0.length:Int))/\∃ s,List.getD e0 n8.toNat default=D.lit (.string s)/\Br (ByteArray.toList s1==ByteArray.toList s)
 (∀ a,N<=a->Q n8 a) (zl Q N0 a0 e0 c0 s1 n7 (IntKind.i64.wrap (n8+1)) N)) (∀ a,N<=a->Q (-1) a)):zl Q N0 a0 e0 c0 s1 n7 n8 N:=
  hE (H:=wH) (by kernel_rfl) h
theorem uD (Q:QT [.bool]) (N0:Nat) (s0:ByteArray) (n6 n7:Int) (N:Nat) (h :
Br (decide (n7<n6)) ((0<=n7/\n7<(s0.size:Int))/\Br (decide ((UInt8.toNat (Array.getD (ByteArray.data s0) n7.toNat (OfNat.ofNat 0)):Int)≥97)) ((0<=n7
 /\ n7<(s0.size:Int))/\Br (!(decide ((UInt8.toNat (Array.getD (ByteArray.data s0) n7.toNat (OfNat.ofNat 0)):Int)<=122))) (Br (n7==0) (∀ a,N<=a->Q
 false a) ((0<=n7/\n7<(s0.size:Int))/\Br (decide ((UInt8.toNat (Array.getD (ByteArray.data s0) n7.toNat (OfNat.ofNat 0)):Int)<48)) (∀ a,N<=a ->
 Q false a) ((0<=n7/\n7<(s0.size:Int))/\Br (decide ((UInt8.toNat (Array.getD (ByteArray.data s0) n7.toNat (OfNat.ofNat 0)):Int)>57)) (∀ a,N<=a
 -> Q false a) (z6 Q N0 s0 n6 (IntKind.i64.wrap (n7+1)) N)))) (z6 Q N0 s0 n6 (IntKind.i64.wrap (n7+1)) N)) (Br (n7==0) (∀ a,N
 <= a->Q false a) ((0<=n7/\n7<(s0.size:Int))/\Br (decide ((UInt8.toNat (Array.getD (ByteArray.data s0) n7.toNat (OfNat.ofNat 0)):Int)<48)) (∀ a,
 N<=a->Q false a) ((0<=n7/\n7<(s0.size:Int))/\Br (decide ((UInt8.toNat (Array.getD (ByteArray.data s0) n7.toNat (OfNat.ofNat 0)):Int)>57)) (∀ a,
 N<=a->Q false a) (z6 Q N0 s0 n6 (IntKind.i64.wrap (n7+1)) N))))) (∀ c,N<=c->ACalls prog 65 [.bool] [.int .i64 (s0.size:Int),.int .i64
 1,.int .i64 4] c (fun b d=>c<=d->Br b ((5=5/\5=5)/\∀ a,ApA a [D.lit (.string (bytes [105,102])),D.lit (.string (bytes [108,101,116])),D.lit
 (.string (bytes [108,105,102,116])),D.lit (.string (bytes [114,101,99])),D.lit (.string (bytes [114,117,110]))]->∀ b,d<=b->rx b [a]->ACalls
 prog 184 [.bool] [.sv a 0 [D.lit (.string (bytes [105,102])),D.lit (.string (bytes [108,101,116])),D.lit (.string (bytes [108,105,102,116])),D.lit (.string
 (bytes [114,101,99])),D.lit (.string (bytes [114,117,110]))] 5,.str s0] b (fun a c=>b<=c->∀ b,c<=b->Q (!a) b)) (∀ a,d
 <= a->Q false a)))):z6 Q N0 s0 n6 n7 N:=
  hE (H:=sH) (by kernel_rfl) h
theorem wE (Q:QT [.int .i64]) (N0:Nat) (n3:Int) (a7:Option Addr) (e7:List D) (c7:Nat) (n8 n9:Int) (N:Nat) (h :
Br (decide (n9<n8)) ((0<=n9/\n9<(e7.length:Int))/\∀ a,N<=a->ACalls prog 275 [.int .i64] [.dg 2 (List.getD e7 n9.toNat default)] a (fun n b=>
 a<=b->yB Q N0 (IntKind.i64.wrap (n3+n)) a7 e7 c7 n8 (IntKind.i64.wrap (n9+1)) b)) (∀ a,N<=a->Q n3 a)):yB Q N0 n3 a7 e7 c7 n8 n9 N:=
  hE (H:=w4) (by kernel_rfl) h
theorem xr (Q:QT [.int .i64]) (N0:Nat) (n3:Int) (a7:Option Addr) (e7:List D) (c7:Nat) (n8 n9:Int) (N:Nat) (h :
Br (decide (n9<n8)) ((0<=n9/\n9<(e7.length:Int))/\∀ a,N<=a->ACalls prog 276 [.int .i64] [.dg 2 (List.getD e7 n9.toNat default)] a (fun n b=>
 a<=b->zt Q N0 (if n>n3 then n else n3) a7 e7 c7 n8 (IntKind.i64.wrap (n9+1)) b)) (∀ a,N<=a->Q (IntKind.i64.wrap (n3+1)) a) 
 ):zt Q N0 n3 a7 e7 c7 n8 n9 N:=
  hE (H:=wh) (by kernel_rfl) h
theorem tf (N:Nat) (x0:D) (Q:QT [.bool]) (h :
Bel N x0->∀ d,N<=d->ACalls prog 277 [.bool] [.dg 2 x0] d (fun b e=>d<=e->Br b (∃ a b,∃ c:Nat,(x0.cell 1)=D.sl a 2 b c/\∀ d,ApA (Option.some
 d) [D.fn (OfNat.ofNat 277) []]->Off [Option.some d] (D.sl a 2 b c)->∀ f,e<=f->rx f [Option.some d]->ACalls prog 280 [.bool] [.sv a 2 b c,.fn
 281 [.pd d 0 (.fn 277 [])]] f (fun a b=>f<=b->∀ c,b<=c->Q (!a) c)) (∀ a,e<=a->Q false a))):ACalls prog 251 [.bool] [.dg 2 x0,.fn 277 []] N Q:=
  eE (H:=qA) (by kernel_rfl) (by kernel_rfl) h
theorem wS (N:Nat) (a0:Option Addr) (e0:List D) (c0:Nat) (a1:Option Addr) (e1:List D) (c1:Nat) (Q:QT [.bool]) (h :
Bel N (D.sl a0 2 e0 c0)->Bel N (D.sl a1 2 e1 c1)->Br (bne (e0.length:Int) (e1.length:Int)) (∀ a,N<=a->Q false a) (zL Q N a1
 e1 c1 a0 e0 c0 (e0.length:Int) 0 N)):ACalls prog 180 [.bool] [.sv a0 2 e0 c0,.sv a1 2 e1 c1,.fn 113 []] N Q:=
  eE (H:=xP) (by kernel_rfl) (by kernel_rfl) h
theorem sJ (N:Nat) (x0:D) (Q:QT [.bool]) (h :
Bel N x0->∀ d,N<=d->ACalls prog 112 [.bool] [.dg 9 x0] d (fun b e=>d<=e->Br b (∃ a b,∃ c:Nat,(x0.cell 8)=D.sl a 9 b c/\∀ d,ApA (Option.some
 d) [D.fn (OfNat.ofNat 112) []]->Off [Option.some d] (D.sl a 9 b c)->∀ f,e<=f->rx f [Option.some d]->ACalls prog 176 [.bool] [.sv a 9 b c,.fn
 177 [.pd d 0 (.fn 112 [])]] f (fun a b=>f<=b->∀ c,b<=c->Q (!a) c)) (∀ a,e<=a->Q false a))):ACalls prog 111 [.bool] [.dg 9 x0,.fn 112 []] N Q:=
  eE (H:=pq) (by kernel_rfl) (by kernel_rfl) h
theorem vD (Q:QT [.ag 2]) (N0:Nat) (a10:Option Addr) (e10:List D) (c10:Nat) (n11 n12 n0_0:Int) (a0_1:Option Addr) (e0_1:List D) (c0_1:Nat) (n1_0:Int) (a1_1:Option Addr) (e1_1:List D) (c1_1:Nat) (N:Nat) (h :
Br (decide (n12<n11)) ((0<=n12/\n12<(e10.length:Int))/\∀ a,N<=a->ACalls prog 226 [.ag 2] [.dg 2 (List.getD e10 n12.toNat default)] a (fun x b
 => a<=b->Bel b x->zJl a1_1 e1_1 c1_1 [x]/\zC e1_1 [x] 32/\∀ (c:Nat),zr Q N0 a10 e10 c10 n11 (IntKind.i64.wrap (n12+1)) n0_0
 a0_1 e0_1 c0_1 n1_0 (e1_1++[x]).length c (e1_1++[x]) c b)) (∀ a,N<=a->Q (D.ag [D.lit (.int .i64 n1_0),D.sl a1_1 2 e1_1 c1_1]) a)):xX Q N0 a10 e10 c10 n11 n12 n0_0 a0_1 e0_1 c0_1 n1_0 a1_1 e1_1 c1_1 N:=
  hE (H:=wJ) (by kernel_rfl) h
theorem xm (N:Nat) (a0:Option Addr) (e0:List D) (c0:Nat) (a1_0:Addr) (Q:QT [.bool]) (h :
Bel N (D.sl a0 2 e0 c0)->∀ a,N<=a->ACalls prog 296 [.int .i64] [.sv a0 2 e0 c0,.fn 281 [.pd a1_0 0 (.fn 277 [])]] a (fun n b=>a<=b->∀ a,b
 <= a->Q (decide (n≥0)) a)):ACalls prog 280 [.bool] [.sv a0 2 e0 c0,.fn 281 [.pd a1_0 0 (.fn 277 [])]] N Q:=
  eE (H:=wT) (by kernel_rfl) (by kernel_rfl) h
theorem yf (Q:QT [.bool]) (N0:Nat) (a1:Option Addr) (e1:List D) (c1:Nat) (a15:Option Addr) (e15:List D) (c15:Nat) (n16 n17:Int) (N:Nat) (h :
Br (decide (n17<n16)) ((0<=n17/\n17<(e15.length:Int))/\(0<=n17/\n17<(e1.length:Int))/\∀ a,N<=a->ACalls prog 113 [.bool] [.dg 2 (List.getD
 e15 n17.toNat default),.dg 2 (List.getD e1 n17.toNat default)] a (fun b c=>a<=c->Br (!b) (∀ a,c<=a->Q false a) (zL
 Q N0 a1 e1 c1 a15 e15 c15 n16 (IntKind.i64.wrap (n17+1)) c))) (∀ a,N<=a->Q true a)):zL Q N0 a1 e1 c1 a15 e15 c15 n16 n17 N:=
  hE (H:=xP) (by kernel_rfl) h
theorem xn (N:Nat) (a0:Option Addr) (e0:List D) (c0:Nat) (a1_0:Addr) (Q:QT [.bool]) (h :
Bel N (D.sl a0 9 e0 c0)->∀ a,N<=a->ACalls prog 235 [.int .i64] [.sv a0 9 e0 c0,.fn 177 [.pd a1_0 0 (.fn 112 [])]] a (fun n b=>a<=b->∀ a,b
 <= a->Q (decide (n≥0)) a)):ACalls prog 176 [.bool] [.sv a0 9 e0 c0,.fn 177 [.pd a1_0 0 (.fn 112 [])]] N Q:=
  eE (H:=wW) (by kernel_rfl) (by kernel_rfl) h
theorem xt (Q:QT [.ag 2]) (N0:Nat) (a10:Option Addr) (e10:List D) (c10:Nat) (n11 n12 n0_0:Int) (a0_1:Option Addr) (e0_1:List D) (c0_1:Nat) (n1_0:Int) (m1_1 c1_1:Nat) (r2:List D) (q2:Nat) (N:Nat) (h :
Br (decide (n12<n11)) ((0<=n12/\n12<(e10.length:Int))/\∀ a,N<=a->ACalls prog 226 [.ag 2] [.dg 2 (List.getD e10 n12.toNat default)] a (fun x b
 => a<=b->Bel b x->(m1_1=r2.length/\c1_1=q2)/\zC r2 [x] 32/\∀ (c:Nat),zr Q N0 a10 e10 c10 n11 (IntKind.i64.wrap (n12+1))
 n0_0 a0_1 e0_1 c0_1 n1_0 (r2++[x]).length c (r2++[x]) c b)) ((m1_1=r2.length/\c1_1=q2)/\(m1_1=r2.length/\c1_1=q2)/\(m1_1=r2.length/\c1_1=q2)
 /\ ∀ a b,N<=b->Fresh N0 b a [D.ag r2]->∀ c,b<=c->Q (D.ag [D.lit (.int .i64 n1_0),D.sl a 2 r2 q2]) c)):zr Q N0 a10 e10 c10 n11 n12 n0_0 a0_1 e0_1 c0_1 n1_0 m1_1 c1_1 r2 q2 N:=
  hE (H:=wJ) (by kernel_rfl) h
theorem wV (N:Nat) (a0:Option Addr) (e0:List D) (c0:Nat) (a1_0:Addr) (Q:QT [.int .i64]) (h :
Bel N (D.sl a0 2 e0 c0)->zZ Q N a0 e0 c0 a1_0 (e0.length:Int) 0 N):ACalls prog 296 [.int .i64] [.sv a0 2 e0 c0,.fn 281 [.pd a1_0 0 (.fn 277 [])]] N Q:=
 eE (H:=xI) (by kernel_rfl) (by kernel_rfl) h
theorem wU (N:Nat) (a0:Option Addr) (e0:List D) (c0:Nat) (a1_0:Addr) (Q:QT [.int .i64]) (h :
Bel N (D.sl a0 9 e0 c0)->zX Q N a0 e0 c0 a1_0 (e0.length:Int) 0 N):ACalls prog 235 [.int .i64] [.sv a0 9 e0 c0,.fn 177 [.pd a1_0 0 (.fn 112 [])]] N Q:=
 eE (H:=xS) (by kernel_rfl) (by kernel_rfl) h
theorem ya (Q:QT [.int .i64]) (N0:Nat) (a0:Option Addr) (e0:List D) (c0:Nat) (a1_0:Addr) (n7 n8:Int) (N:Nat) (h :
Br (decide (n8<n7)) ((0<=n8/\n8<(e0.length:Int))/\∀ a,N<=a->ACalls prog 281 [.bool] [.dg 2 (List.getD e0 n8.toNat default),.pd a1_0 0 (.fn 277 [])]
 a (fun b c=>a<=c->Br b (∀ a,c<=a->Q n8 a) (zZ Q N0 a0 e0 c0 a1_0 n7 (IntKind.i64.wrap (n8+1)) c))) (∀ a,N <=
 a->Q (-1) a)):zZ Q N0 a0 e0 c0 a1_0 n7 n8 N:=
  hE (H:=xI) (by kernel_rfl) h
theorem yd (Q:QT [.int .i64]) (N0:Nat) (a0:Option Addr) (e0:List D) (c0:Nat) (a1_0:Addr) (n7 n8:Int) (N:Nat) (h :
Br (decide (n8<n7)) ((0<=n8/\n8<(e0.length:Int))/\∀ a,N<=a->ACalls prog 177 [.bool] [.dg 9 (List.getD e0 n8.toNat default),.pd a1_0 0 (.fn 112 [])]
 a (fun b c=>a<=c->Br b (∀ a,c<=a->Q n8 a) (zX Q N0 a0 e0 c0 a1_0 n7 (IntKind.i64.wrap (n8+1)) c))) (∀ a,N <=
 a->Q (-1) a)):zX Q N0 a0 e0 c0 a1_0 n7 n8 N:=
  hE (H:=xS) (by kernel_rfl) h
theorem uo (N:Nat) (x0:D) (a1:Addr) (Q:QT [.bool]) (h :
Bel N x0->∀ a,N<=a->ACalls prog 251 [.bool] [.dg 2 x0,.fn 277 []] a (fun b c=>a<=c->∀ a,c<=a->Q (!b) a)):ACalls prog 281 [.bool] [.dg 2 x0,.pd a1 0 (.fn 277 [])] N Q:=
 eE (H:=su) (by kernel_rfl) (by kernel_rfl) h
theorem ux (N:Nat) (x0:D) (a1:Addr) (Q:QT [.bool]) (h :
Bel N x0->∀ a,N<=a->ACalls prog 111 [.bool] [.dg 9 x0,.fn 112 []] a (fun b c=>a<=c->∀ a,c<=a->Q (!b) a)):ACalls prog 177 [.bool] [.dg 9 x0,.pd a1 0 (.fn 112 [])] N Q:=
 eE (H:=si) (by kernel_rfl) (by kernel_rfl) h
end Go.Proofs.YtmfjakahanbnlaaGreatDoor
set_option maxRecDepth 100000
namespace Go.Proofs.YtmfjakahanbnlaaGreatDoor
open Go Go.Proofs Go.Proofs.Tryz
def tE:Hint:=⟨[hc 2 [0,1,5]],[],[]⟩
def yr (Q:QT [.int .i64]) (N0:Nat) (a0:Option Addr) (e0:List D) (c0:Nat) (s1:ByteArray) (n5:Int) (N:Nat):Prop:=AT prog 234 [.int .i64] Q N0 .ord (zF prog 234 2) ⟨.sv a0 0 e0 c0::.str s1::an 3 (.int .i64 n5::an 13 []),[],N,none⟩
theorem zAQ (N:Nat) (a0:Option Addr) (e0:List D) (c0:Nat) (s1:ByteArray) (Q:QT [.int .i64]) (h :
Bel N (D.sl a0 0 e0 c0)->yr Q N a0 e0 c0 s1 0 N):ACalls prog 234 [.int .i64] [PV.sv a0 0 e0 c0,PV.str s1] N Q:=
 eE (H:=tE) (by kernel_rfl) (by kernel_rfl) h
theorem vR (Q:QT [.int .i64]) (N0:Nat) (a0:Option Addr) (e0:List D) (c0:Nat) (s1:ByteArray) (n5:Int) (N:Nat) (h :
Br (decide (n5<(e0.length:Int))) ((0<=n5/\n5<(e0.length:Int))/\∃ s,List.getD e0 n5.toNat default=D.lit (.string s)/\Br (ByteArray.toList s==ByteArray.toList
 s1) (∀ a,N<=a->Q n5 a) (yr Q N0 a0 e0 c0 s1 (IntKind.i64.wrap (n5+1)) N)) (∀ a,N<=a->Q (-1) a)):yr Q N0 a0 e0 c0 s1 n5 N:=
  hE (H:=tE) (by kernel_rfl) h
end Go.Proofs.YtmfjakahanbnlaaGreatDoor
