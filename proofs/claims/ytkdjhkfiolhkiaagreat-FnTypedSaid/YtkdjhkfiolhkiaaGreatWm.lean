/- Printed by gen.py: what the functions come to. -/
import Derived.Test.YtkdjhkfiolhkiaaGreatJh
set_option linter.unusedVariables false
set_option maxRecDepth 100000
namespace Go.Proofs.YtkdjhkfiolhkiaaGreat
open Go Go.Proofs Go.Proofs.Tryz
end Go.Proofs.YtkdjhkfiolhkiaaGreat
set_option maxRecDepth 100000
namespace Go.Proofs.YtkdjhkfiolhkiaaGreat
open Go Go.Proofs Go.Proofs.Tryz
def sg:Hint:=⟨[hc 3 [3,7,8,9]],[],[(5,hs 5 [ec 2 [14]])]⟩
def qc:Hint:=⟨[],[],[(1,hs 13 [ec 1 [3],ec 4 [6],ec 9 [11]])]⟩
def rT:Hint:=⟨[hc 3 [3,7,8,9]],[],[(5,hs 5 [ec 2 [14]])]⟩
def sf:Hint:=⟨[hc 3 [1,3,4]],[],[(5,hs 9 [ec 6 [17]])]⟩
def sj:Hint:=⟨[hc 2 [0,1,5]],[],[]⟩
def qK:Hint:=⟨[],[],[(1,hs 13 [ec 1 [3],ec 5 [7],ec 10 [12]])]⟩
def r6:Hint:=⟨[hc 3 [1,2,5]],[],[(5,hs 8 [ec 6 [23]])]⟩
def xT (Q:QT [.int .i64]) (N0:Nat) (n3:Int) (a7:Option Addr) (e7:List D) (c7:Nat) (n8 n9:Int) (N:Nat):Prop:=AT prog 169 [.int .i64] Q N0 .ord (zF prog 169 3) ⟨an 3 (.int .i64 n3::an 3 (.sv a7 9 e7 c7::.int .i64 n8::.int .i64 n9::an 10 [])),[],N,none⟩
def xf (Q:QT [.int .i64]) (N0:Nat) (n3:Int) (a7:Option Addr) (e7:List D) (c7:Nat) (n8 n9:Int) (N:Nat):Prop:=AT prog 84 [.int .i64] Q N0 .ord (zF prog 84 3) ⟨an 3 (.int .i64 n3::an 3 (.sv a7 9 e7 c7::.int .i64 n8::.int .i64 n9::an 9 [])),[],N,none⟩
def xM (Q:QT [.int .i64]) (N0:Nat) (n3 n4:Int) (y0:D) (N:Nat):Prop:=AT prog 171 [.int .i64] Q N0 .ord (zF prog 171 3) ⟨an 1 (.pb 0 0 0 0::an 1 (.int .i64 n3::.int .i64 n4::an 17 [])),[.vd y0 9],N,none⟩
def xP (Q:QT [.int .i64]) (N0:Nat) (a0:Option Addr) (e0:List D) (c0:Nat) (s1:ByteArray) (n5:Int) (N:Nat):Prop:=AT prog 22 [.int .i64] Q N0 .ord (zF prog 22 2) ⟨.sv a0 0 e0 c0::.str s1::an 3 (.int .i64 n5::an 13 []),[],N,none⟩
def xi (Q:QT [.int .i64]) (N0:Nat) (n1 n5:Int) (y0:D) (N:Nat):Prop:=AT prog 170 [.int .i64] Q N0 .ord (zF prog 170 3) ⟨an 1 (.int .i64 n1::.pb 0 0 0 0::an 2 (.int .i64 n5::an 21 [])),[.vd y0 9],N,none⟩
theorem zCa (N:Nat) (x0:D) (Q:QT [.int .i64]) (h :
Bel N x0->∃ a b,∃ c:Nat,(x0.cell 8)=D.sl a 9 b c/\xT Q N 0 a b c (b.length:Int) 0 N):ACalls prog 169 [.int .i64] [PV.dg 9 x0] N Q:=
 eE (H:=sg) (by kernel_rfl) (by kernel_rfl) h
theorem qR (N:Nat) (x0:D) (Q:QT [.bool]) (h :
Bel N x0->∀ a,N<=a->ACalls prog 119 [.bool] [.dg 9 x0] a (fun b c=>a<=c->Br b (∀ a,c<=a->ACalls prog 84 [.int .i64] [.dg 9 x0] a (fun
 n b=>a<=b->Br (decide (n<=80)) (∀ a,b<=a->ACalls prog 169 [.int .i64] [.dg 9 x0] a (fun b c=>a<=c->∀ a,c<=a->Q (decide
 (b<=20)) a)) (∀ a,b<=a->Q false a))) (∀ a,c<=a->Q false a))):ACalls prog 105 [.bool] [PV.dg 9 x0] N Q:=
  eE (H:=qc) (by kernel_rfl) (by kernel_rfl) h
theorem zFC (N:Nat) (x0:D) (Q:QT [.int .i64]) (h :
Bel N x0->∃ a b,∃ c:Nat,(x0.cell 8)=D.sl a 9 b c/\xf Q N 1 a b c (b.length:Int) 0 N):ACalls prog 84 [.int .i64] [PV.dg 9 x0] N Q:=
 eE (H:=rT) (by kernel_rfl) (by kernel_rfl) h
theorem zCo (N:Nat) (x0:D) (Q:QT [.int .i64]) (h :
Bel N x0->xM Q N 0 0 x0 N):ACalls prog 171 [.int .i64] [PV.dg 9 x0] N Q:=
 eE (H:=sf) (by kernel_rfl) (by kernel_rfl) h
theorem zCj (N:Nat) (a0:Option Addr) (e0:List D) (c0:Nat) (s1:ByteArray) (Q:QT [.int .i64]) (h :
Bel N (D.sl a0 0 e0 c0)->xP Q N a0 e0 c0 s1 0 N):ACalls prog 22 [.int .i64] [PV.sv a0 0 e0 c0,PV.str s1] N Q:=
 eE (H:=sj) (by kernel_rfl) (by kernel_rfl) h
theorem rv (N:Nat) (x0:D) (Q:QT [.bool]) (h :
Bel N x0->∀ a,N<=a->ACalls prog 170 [.int .i64] [.dg 9 x0,.int .i64 80] a (fun n c=>a<=c->Br (decide (n≥0)) (∀ a,c<=a->ACalls prog
 171 [.int .i64] [.dg 9 x0] a (fun c d=>a<=d->Br (decide (c<=20)) (∀ a,d<=a->ACalls prog 122 [.bool] [.dg 9 x0] a (fun b c=>a <=
 c->∀ a,c<=a->Q b a)) (∀ a,d<=a->Q false a))) (∀ a,c<=a->Q false a))):ACalls prog 106 [.bool] [PV.dg 9 x0] N Q:=
  eE (H:=qK) (by kernel_rfl) (by kernel_rfl) h
theorem zEn (N:Nat) (x0:D) (n1:Int) (Q:QT [.int .i64]) (h :
Bel N x0->xi Q N (IntKind.i64.wrap (n1 - 1)) 0 x0 N):ACalls prog 170 [.int .i64] [PV.dg 9 x0,PV.int .i64 n1] N Q:=
 eE (H:=r6) (by kernel_rfl) (by kernel_rfl) h
theorem tA (Q:QT [.int .i64]) (N0:Nat) (n3:Int) (a7:Option Addr) (e7:List D) (c7:Nat) (n8 n9:Int) (N:Nat) (h :
Br (decide (n9<n8)) ((0<=n9/\n9<(e7.length:Int))/\∀ a,N<=a->ACalls prog 169 [.int .i64] [.dg 9 (List.getD e7 n9.toNat default)] a (fun n b=>
 a<=b->xT Q N0 (if n>n3 then n else n3) a7 e7 c7 n8 (IntKind.i64.wrap (n9+1)) b)) (∀ a,N<=a->Q (IntKind.i64.wrap (n3+1)) a)):xT Q N0 n3 a7 e7 c7 n8 n9 N:=
  hE (H:=sg) (by kernel_rfl) h
theorem tn (Q:QT [.int .i64]) (N0:Nat) (n3:Int) (a7:Option Addr) (e7:List D) (c7:Nat) (n8 n9:Int) (N:Nat) (h :
Br (decide (n9<n8)) ((0<=n9/\n9<(e7.length:Int))/\∀ a,N<=a->ACalls prog 84 [.int .i64] [.dg 9 (List.getD e7 n9.toNat default)] a (fun n b=>
 a<=b->xf Q N0 (IntKind.i64.wrap (n3+n)) a7 e7 c7 n8 (IntKind.i64.wrap (n9+1)) b)) (∀ a,N<=a->Q n3 a)):xf Q N0 n3 a7 e7 c7 n8 n9 N:=
  hE (H:=rT) (by kernel_rfl) h
theorem uw (Q:QT [.int .i64]) (N0:Nat) (n3 n4:Int) (y0:D) (N:Nat) (h :
∃ a b,∃ c:Nat,(y0.cell 8)=D.sl a 9 b c/\Br (decide (n4<(b.length:Int))) (∃ a b,∃ c:Nat,(y0.cell 8)=D.sl a 9 b c/\(0<=n4/\n4
 < (b.length:Int))/\∀ a,N<=a->ACalls prog 171 [.int .i64] [.dg 9 (List.getD b n4.toNat default)] a (fun n b=>a<=b->∀ a,b<=a ->
 ACalls prog 168 [.int .i64] [.int .i64 n3,.int .i64 n] a (fun b c=>a<=c->xM Q N0 b (IntKind.i64.wrap (n4+1)) y0 c))) (∀ a,N
 <= a->Q (IntKind.i64.wrap (n3+1)) a)):xM Q N0 n3 n4 y0 N:=
  hE (H:=sf) (by kernel_rfl) h
theorem ur (Q:QT [.int .i64]) (N0:Nat) (a0:Option Addr) (e0:List D) (c0:Nat) (s1:ByteArray) (n5:Int) (N:Nat) (h :
Br (decide (n5<(e0.length:Int))) ((0<=n5/\n5<(e0.length:Int))/\∃ s,List.getD e0 n5.toNat default=D.lit (.string s)/\Br (ByteArray.toList s==ByteArray.toList
 s1) (∀ a,N<=a->Q n5 a) (xP Q N0 a0 e0 c0 s1 (IntKind.i64.wrap (n5+1)) N)) (∀ a,N<=a->Q (-1) a)):xP Q N0 a0 e0 c0 s1 n5 N:=
  hE (H:=sj) (by kernel_rfl) h
theorem tJ (Q:QT [.int .i64]) (N0:Nat) (n1 n5:Int) (y0:D) (N:Nat) (h :
∃ a b,∃ c:Nat,(y0.cell 8)=D.sl a 9 b c/\Br (decide (n5<(b.length:Int))) (Br (decide (n1≥0)) (∃ a b,∃ c:Nat,(y0.cell 8)=D.sl a 9 b
 c/\(0<=n5/\n5<(b.length:Int))/\∀ a,N<=a->ACalls prog 170 [.int .i64] [.dg 9 (List.getD b n5.toNat default),.int .i64 n1] a (fun n b=>
 a<=b->xi Q N0 n (IntKind.i64.wrap (n5+1)) y0 b)) (∀ a,N<=a->Q n1 a)) (∀ a,N<=a->Q n1 a)):xi Q N0 n1 n5 y0 N:=
  hE (H:=r6) (by kernel_rfl) h
end Go.Proofs.YtkdjhkfiolhkiaaGreat
set_option maxRecDepth 100000
namespace Go.Proofs.YtkdjhkfiolhkiaaGreat
open Go Go.Proofs Go.Proofs.Tryz
end Go.Proofs.YtkdjhkfiolhkiaaGreat
set_option maxRecDepth 100000
namespace Go.Proofs.YtkdjhkfiolhkiaaGreat
open Go Go.Proofs Go.Proofs.Tryz
end Go.Proofs.YtkdjhkfiolhkiaaGreat
set_option maxRecDepth 100000
namespace Go.Proofs.YtkdjhkfiolhkiaaGreat
open Go Go.Proofs Go.Proofs.Tryz
end Go.Proofs.YtkdjhkfiolhkiaaGreat
set_option maxRecDepth 100000
namespace Go.Proofs.YtkdjhkfiolhkiaaGreat
open Go Go.Proofs Go.Proofs.Tryz
end Go.Proofs.YtkdjhkfiolhkiaaGreat
set_option maxRecDepth 100000
namespace Go.Proofs.YtkdjhkfiolhkiaaGreat
open Go Go.Proofs Go.Proofs.Tryz
def qS:Hint:=⟨[hc 3 [1,2,3,4] [] [(3,8,30,9)]],[],[(1,[en 0,en 1,en 2,en 3,en 4,en 5,en 6,en 7,en 8,en 9,en 11,en 12,en 15,{ i:=10,hard:=true,cl:=[14],fs:=[3,14] },{ i:=13,hard:=true,cl:=[17],fs:=[3,17] },en 14,eh 16]),(5,[en 0,en 1,en 2,en 3,en 4,en 5,en 6,{ i:=7,hard:=true,cl:=[33],fs:=[3,33] },{ i:=8,hard:=true,cl:=[34],fs:=[3,34] },eh 9,en 10,eh 11])]⟩
def qB:Hint:=⟨[hc 3 [1,4,5,6] [] [(5,8,30,9)]],[],[(5,[en 0,en 1,en 2,en 3,en 4,en 5,{ i:=6,hard:=true,cl:=[20],fs:=[5,20] },{ i:=7,hard:=true,cl:=[21],fs:=[5,21] },eh 8,en 9,eh 10])]⟩
def zF4:Hint:=⟨[],[],[]⟩
def wE (Q:QT [.pk,.int .i64,.str,.str,.int .i64,.dc,.dc,.dc,.dc,.row 30 9]) (N0:Nat) (n4:Int) (y0:D) (n1_0:Int) (s1_1 s1_2:ByteArray) (n1_3 n1_4:Int) (a1_5:Option Addr) (e1_5:List D) (c1_5:Nat) (n1_6:Int) (a1_7:Option Addr) (e1_7:List D) (c1_7:Nat) (a1_8:Option Addr) (e1_8:List D) (c1_8:Nat) (n2_0:Int) (s2_1 s2_2:ByteArray) (n2_3:Int) (x2_4 x2_5 x2_6 x2_7:D) (m2_8 c2_8:Nat) (r3:List D) (q3:Nat) (N:Nat):Prop:=AT prog 124 [.pk,.int .i64,.str,.str,.int .i64,.dc,.dc,.dc,.dc,.row 30 9] Q N0 .ord (zF prog 124 3) ⟨an 1 (.pb 0 0 0 0::.pb 1 0 0 0::.pb 2 0 0 0::.int .i64 n4::an 34 []),[.vd y0 9,.var [.int .i64 n1_0,.str s1_1,.str s1_2,.int .i64 n1_3,.int .i64 n1_4,.sv a1_5 2 e1_5 c1_5,.int .i64 n1_6,.sv a1_7 2 e1_7 c1_7,.sv a1_8 9 e1_8 c1_8],.var [.int .i64 n2_0,.str s2_1,.str s2_2,.int .i64 n2_3,.dc x2_4,.dc x2_5,.dc x2_6,.dc x2_7,.sb 3 9 0 m2_8 c2_8],.arr 30 9 r3 q3],N,none⟩
def xy (Q:QT [.ag 9]) (N0:Nat) (a1:Option Addr) (e1:List D) (c1:Nat) (n6 n0_0:Int) (s0_1 s0_2:ByteArray) (n0_3 n0_4:Int) (a0_5:Option Addr) (e0_5:List D) (c0_5:Nat) (n0_6:Int) (a0_7:Option Addr) (e0_7:List D) (c0_7:Nat) (a0_8:Option Addr) (e0_8:List D) (c0_8:Nat) (n1_0:Int) (s1_1 s1_2:ByteArray) (n1_3 n1_4:Int) (a1_5:Option Addr) (e1_5:List D) (c1_5:Nat) (n1_6:Int) (a1_7:Option Addr) (e1_7:List D) (c1_7 m1_8 c1_8:Nat) (r2:List D) (q2:Nat) (N:Nat):Prop:=AT prog 123 [.ag 9] Q N0 .ord (zF prog 123 3) ⟨an 1 (.sv a1 9 e1 c1::an 2 (.pb 0 0 0 0::.pb 1 0 0 0::.int .i64 n6::an 19 [])),[.var [.int .i64 n0_0,.str s0_1,.str s0_2,.int .i64 n0_3,.int .i64 n0_4,.sv a0_5 2 e0_5 c0_5,.int .i64 n0_6,.sv a0_7 2 e0_7 c0_7,.sv a0_8 9 e0_8 c0_8],.var [.int .i64 n1_0,.str s1_1,.str s1_2,.int .i64 n1_3,.int .i64 n1_4,.sv a1_5 2 e1_5 c1_5,.int .i64 n1_6,.sv a1_7 2 e1_7 c1_7,.sb 2 9 0 m1_8 c1_8],.arr 30 9 r2 q2],N,none⟩
theorem zE7 (N:Nat) (x0:D) (Q:QT [.pk,.int .i64,.str,.str,.int .i64,.dc,.dc,.dc,.dc,.row 30 9]) (h :
Bel N x0->∃ n:Int,(x0.cell 0)=D.lit (.int .i64 n)/\∃ s,(x0.cell 1)=D.lit (.string s)/\∃ a,(x0.cell 2)=D.lit (.string a)/\∃ b:Int,(x0.cell
 3)=D.lit (.int .i64 b)/\∀ c,N<=c->ACalls prog 110 [.ag 2] [.dg 2 (D.sub x0 4 2)] c (fun x d=>c<=d->Bel d x->∀ c,d<=c->ACalls
 prog 110 [.ag 2] [.dg 2 (D.sub x0 6 2)] c (fun d e=>c<=e->Bel e d->wE Q N 0 x0 0 (bytes []) (bytes []) 0 0 Option.none [] 0 0 Option.none
 [] 0 Option.none [] 0 n s a b (x.cell 0) (x.cell 1) (d.cell 0) (d.cell 1) 0 0 [] 0 e))):ACalls prog 124 [.pk,.int .i64,.str,.str,.int .i64,.dc,.dc,.dc,.dc,.row 30 9] [PV.dg 9 x0] N Q:=
  eE (H:=qS) (by kernel_rfl) (by kernel_rfl) h
theorem zEi (N:Nat) (n0:Int) (a1:Option Addr) (e1:List D) (c1:Nat) (Q:QT [.ag 9]) (h :
Bel N (D.sl a1 9 e1 c1)->xy Q N a1 e1 c1 0 0 (bytes []) (bytes []) 0 0 Option.none [] 0 0 Option.none [] 0 Option.none [] 0 n0 (bytes []) (bytes [])
 0 0 Option.none [] 0 0 Option.none [] 0 0 0 [] 0 N):ACalls prog 123 [.ag 9] [PV.int .i64 n0,PV.sv a1 9 e1 c1] N Q:=
  eE (H:=qB) (by kernel_rfl) (by kernel_rfl) h
theorem zF0 (N:Nat) (s0:ByteArray) (x1 x2:D) (Q:QT [.ag 9]) (h :
Bel N x1->Bel N x2->(2=([x1,x2]).length/\2=2)/\∀ a,ApA a [x1,x2]->∀ b,N<=b->vQ b [a]->ACalls prog 123 [.ag 9] [.int .i64 8,.sv a 9 [x1,
 x2] 2] b (fun x c=>b<=c->Off [a] x/\(Bel c x->∀ a,c<=a->Q (D.ag [(x.cell 0),D.lit (.string s0),(x.cell 2),(x.cell 3),(x.cell 4),(x.cell
 5),(x.cell 6),(x.cell 7),(x.cell 8)]) a))):ACalls prog 186 [.ag 9] [PV.str s0,PV.dg 9 x1,PV.dg 9 x2] N Q:=
  eE (H:=zF4) (by kernel_rfl) (by kernel_rfl) h
theorem tI (Q:QT [.pk,.int .i64,.str,.str,.int .i64,.dc,.dc,.dc,.dc,.row 30 9]) (N0:Nat) (n4:Int) (y0:D) (n1_0:Int) (s1_1 s1_2:ByteArray) (n1_3 n1_4:Int) (a1_5:Option Addr) (e1_5:List D) (c1_5:Nat) (n1_6:Int) (a1_7:Option Addr) (e1_7:List D) (c1_7:Nat) (a1_8:Option Addr) (e1_8:List D) (c1_8:Nat) (n2_0:Int) (s2_1 s2_2:ByteArray) (n2_3:Int) (x2_4 x2_5 x2_6 x2_7:D) (m2_8 c2_8:Nat) (r3:List D) (q3:Nat) (N:Nat) (h :
∃ a b,∃ c:Nat,(y0.cell 8)=D.sl a 9 b c/\Br (decide (n4<(b.length:Int))) (∃ a b,∃ c:Nat,(y0.cell 8)=D.sl a 9 b c/\(0<=n4/\n4
 < (b.length:Int))/\∀ a,N<=a->ACalls prog 124 [Sh.pk,.int .i64,.str,.str,.int .i64,Sh.dc,Sh.dc,Sh.dc,Sh.dc,.row (OfNat.ofNat 30) 9] [.dg 9 (List.getD
 b n4.toNat default)] a (fun n s b c x d e f g h i=>a<=i->Bel i (D.ag g)->(g.length=g.length/\h=h)/\∀ a j,
 i<=j->Fresh N0 j a [D.ag g,x,d,e,f,x2_4,x2_5,x2_6,x2_7,D.ag r3]->(m2_8=r3.length/\c2_8=q3)/\zA r3 [D.ag [D.lit (.int .i64
 n),D.lit (.string s),D.lit (.string b),D.lit (.int .i64 c),x,d,e,f,D.sl a 9 g h]] 136/\∀ (i:Nat),wE Q N0 (IntKind.i64.wrap
 (n4+1)) y0 n1_0 s1_1 s1_2 n1_3 n1_4 a1_5 e1_5 c1_5 n1_6 a1_7 e1_7 c1_7 a1_8 e1_8 c1_8 n2_0 s2_1 s2_2 n2_3 x2_4 x2_5 x2_6 x2_7 (r3++[D.ag [D.lit (.int .i64 n),
 D.lit (.string s),D.lit (.string b),D.lit (.int .i64 c),x,d,e,f,D.sl a 9 g h]]).length i (r3++[D.ag [D.lit (.int .i64 n),D.lit (.string
 s),D.lit (.string b),D.lit (.int .i64 c),x,d,e,f,D.sl a 9 g h]]) i j)) ((m2_8=r3.length/\c2_8=q3)/\∀ a,N<=a->Q n2_0 s2_1
 s2_2 n2_3 x2_4 x2_5 x2_6 x2_7 r3 c2_8 a)):wE Q N0 n4 y0 n1_0 s1_1 s1_2 n1_3 n1_4 a1_5 e1_5 c1_5 n1_6 a1_7 e1_7 c1_7 a1_8 e1_8 c1_8 n2_0 s2_1 s2_2 n2_3 x2_4 x2_5 x2_6 x2_7 m2_8 c2_8 r3 q3 N:=
  hE (H:=qS) (by kernel_rfl) h
theorem tW (Q:QT [.ag 9]) (N0:Nat) (a1:Option Addr) (e1:List D) (c1:Nat) (n6 n0_0:Int) (s0_1 s0_2:ByteArray) (n0_3 n0_4:Int) (a0_5:Option Addr) (e0_5:List D) (c0_5:Nat) (n0_6:Int) (a0_7:Option Addr) (e0_7:List D) (c0_7:Nat) (a0_8:Option Addr) (e0_8:List D) (c0_8:Nat) (n1_0:Int) (s1_1 s1_2:ByteArray) (n1_3 n1_4:Int) (a1_5:Option Addr) (e1_5:List D) (c1_5:Nat) (n1_6:Int) (a1_7:Option Addr) (e1_7:List D) (c1_7 m1_8 c1_8:Nat) (r2:List D) (q2:Nat) (N:Nat) (h :
Br (decide (n6<(e1.length:Int))) ((0<=n6/\n6<(e1.length:Int))/\∀ b,N<=b->ACalls prog 124 [Sh.pk,.int .i64,.str,.str,.int .i64,Sh.dc,Sh.dc,
 Sh.dc,Sh.dc,.row (OfNat.ofNat 30) 9] [.dg 9 (List.getD e1 n6.toNat default)] b (fun n s c d x e f g h i j=>b<=j->Bel j (D.ag h)->(h.length
 = h.length/\i=i)/\∀ a b,j<=b->Fresh N0 b a [D.ag h,x,e,f,g,D.sl a1_5 2 e1_5 c1_5,D.sl a1_7 2 e1_7 c1_7,D.ag r2]->(m1_8=r2.length
 /\ c1_8=q2)/\zA r2 [D.ag [D.lit (.int .i64 n),D.lit (.string s),D.lit (.string c),D.lit (.int .i64 d),x,e,f,g,D.sl a 9 h i]] 136/\∀ (j
 : Nat),xy Q N0 a1 e1 c1 (IntKind.i64.wrap (n6+1)) n0_0 s0_1 s0_2 n0_3 n0_4 a0_5 e0_5 c0_5 n0_6 a0_7 e0_7 c0_7 a0_8 e0_8 c0_8 n1_0 s1_1 s1_2 n1_3
 n1_4 a1_5 e1_5 c1_5 n1_6 a1_7 e1_7 c1_7 (r2++[D.ag [D.lit (.int .i64 n),D.lit (.string s),D.lit (.string c),D.lit (.int .i64 d),x,e,f,g,D.sl
 a 9 h i]]).length j (r2++[D.ag [D.lit (.int .i64 n),D.lit (.string s),D.lit (.string c),D.lit (.int .i64 d),x,e,f,g,D.sl a 9 h i]]) j b))
 ((m1_8=r2.length/\c1_8=q2)/\(m1_8=r2.length/\c1_8=q2)/\(m1_8=r2.length/\c1_8=q2)/\∀ a b,N<=b->Fresh N0 b a [D.ag r2,D.sl a1_5 2 e1_5
 c1_5,D.sl a1_7 2 e1_7 c1_7]->∀ c,b<=c->Q (D.ag [D.lit (.int .i64 n1_0),D.lit (.string s1_1),D.lit (.string s1_2),D.lit (.int .i64 n1_3),D.lit (.int
 .i64 n1_4),D.sl a1_5 2 e1_5 c1_5,D.lit (.int .i64 n1_6),D.sl a1_7 2 e1_7 c1_7,D.sl a 9 r2 q2]) c)):xy Q N0 a1 e1 c1 n6 n0_0 s0_1 s0_2 n0_3 n0_4 a0_5 e0_5 c0_5 n0_6 a0_7 e0_7 c0_7 a0_8 e0_8 c0_8 n1_0 s1_1 s1_2 n1_3 n1_4 a1_5 e1_5 c1_5 n1_6 a1_7 e1_7 c1_7 m1_8 c1_8 r2 q2 N:=
  hE (H:=qB) (by kernel_rfl) h
end Go.Proofs.YtkdjhkfiolhkiaaGreat
set_option maxRecDepth 100000
namespace Go.Proofs.YtkdjhkfiolhkiaaGreat
open Go Go.Proofs Go.Proofs.Tryz
def zCl:Hint:=⟨[],[],[]⟩
def vi:Hint:=⟨[hc 3 [0,1,5,6] [(5,9,0)]],[],[]⟩
def wT:Hint:=⟨[hc 3 [0,1,5,6] [(5,9,0)],hc 8 [1,5,7] [(5,9,0)]],[],[]⟩
def vE:Hint:=⟨[hc 6 [1,3,4,5,6],hc 10 [1,3,4,5,6,7,8]],[],[(8,hs 7 [ec 5 [32]])]⟩
def zw (Q:QT [.sl 0]) (N0:Nat) (a0:Option Addr) (e0:List D) (c0:Nat) (s1:ByteArray) (m5 c5:Nat) (n6:Int) (r0:List D) (q0:Nat) (N:Nat):Prop:=AT prog 77 [.sl 0] Q N0 .ord (zF prog 77 3) ⟨.sv a0 0 e0 c0::.str s1::an 3 (.sb 0 0 0 m5 c5::.int .i64 n6::an 21 []),[.arr 9 0 r0 q0],N,none⟩
def yA (Q:QT [.row 9 0]) (N0:Nat) (a0:Option Addr) (e0:List D) (c0:Nat) (a1:Option Addr) (e1:List D) (c1 m5 c5:Nat) (n6:Int) (r0:List D) (q0:Nat) (N:Nat):Prop:=AT prog 78 [.row 9 0] Q N0 .ord (zF prog 78 3) ⟨.sv a0 0 e0 c0::.sv a1 0 e1 c1::an 3 (.sb 0 0 0 m5 c5::.int .i64 n6::an 43 []),[.arr 9 0 r0 q0],N,none⟩
def zg (Q:QT [.sl 0]) (N0:Nat) (a3:Option Addr) (e3:List D) (c3:Nat) (n4:Int) (m5 c5:Nat) (n6:Int) (y0:D) (r1:List D) (q1:Nat) (N:Nat):Prop:=AT prog 21 [.sl 0] Q N0 .ord (zF prog 21 6) ⟨an 1 (.pb 0 0 0 0::an 1 (.sv a3 0 e3 c3::.int .i64 n4::.sb 1 0 0 m5 c5::.int .i64 n6::an 48 [])),[.vd y0 9,.arr 9 0 r1 q1],N,none⟩
def zh (Q:QT [.row 9 0]) (N0:Nat) (a1:Option Addr) (e1:List D) (c1 m5 c5:Nat) (n7:Int) (r0:List D) (q0:Nat) (N:Nat):Prop:=AT prog 78 [.row 9 0] Q N0 .ord (zF prog 78 8) ⟨an 1 (.sv a1 0 e1 c1::an 3 (.sb 0 0 0 m5 c5::an 1 (.int .i64 n7::an 42 []))),[.arr 9 0 r0 q0],N,none⟩
def yJ (Q:QT [.sl 0]) (N0:Nat) (a3:Option Addr) (e3:List D) (c3:Nat) (n4:Int) (m5 c5:Nat) (n6:Int) (a7:Option Addr) (e7:List D) (c7:Nat) (n8:Int) (y0:D) (r1:List D) (q1:Nat) (N:Nat):Prop:=AT prog 21 [.sl 0] Q N0 .ord (zF prog 21 10) ⟨an 1 (.pb 0 0 0 0::an 1 (.sv a3 0 e3 c3::.int .i64 n4::.sb 1 0 0 m5 c5::.int .i64 n6::.sv a7 0 e7 c7::.int .i64 n8::an 46 [])),[.vd y0 9,.arr 9 0 r1 q1],N,none⟩
theorem zC7 (N:Nat) (x0:D) (Q:QT [.sl 0,.int .i64]) (h :
Bel N x0->∃ n:Int,(x0.cell 0)=D.lit (.int .i64 n)/\Br (n==6) (∃ a b,∃ c:Nat,(x0.cell 8)=D.sl a 9 b c/\Br ((b.length:Int)==1) (∃ s,(x0.cell
 1)=D.lit (.string s)/\(1=([D.lit (.string s)]).length/\1=1)/\(1=([D.lit (.string s)]).length/\1=1)/\∀ a b,N<=b->Fresh N b a [D.ag [D.lit
 (.string s)]]->∀ c,b<=c->Q a [D.lit (.string s)] 1 0 c) (∃ a:Int,(x0.cell 0)=D.lit (.int .i64 a)/\Br (a==8) (∃ a b,∃ c:Nat,
 (x0.cell 8)=D.sl a 9 b c/\Br ((b.length:Int)==2) (∃ a,(x0.cell 1)=D.lit (.string a)/\(1=([D.lit (.string a)]).length/\1=1)/\(1 =
 ([D.lit (.string a)]).length/\1=1)/\∀ b c,N<=c->Fresh N c b [D.ag [D.lit (.string a)]]->∀ d,c<=d->Q b [D.lit (.string a)] 1 1
 d) (∃ a:Int,(x0.cell 0)=D.lit (.int .i64 a)/\Br (a==9) (∃ a b,∃ c:Nat,(x0.cell 8)=D.sl a 9 b c/\Br ((b.length:Int)==1)
 (∃ a,(x0.cell 1)=D.lit (.string a)/\∃ b,(x0.cell 2)=D.lit (.string b)/\(2=([D.lit (.string a),D.lit (.string b)]).length/\2=2)/\(2=([D.lit
 (.string a),D.lit (.string b)]).length/\2=2)/\∀ c d,N<=d->Fresh N d c [D.ag [D.lit (.string a),D.lit (.string b)]]->∀ e,d<=e
 -> Q c [D.lit (.string a),D.lit (.string b)] 2 0 e) ((0=0/\0=0)/\(0=0/\0=0)/\∀ a b,N<=b->Fresh N b a [D.ag []]->∀ c,b<=c
 -> Q a [] 0 (-1) c)) ((0=0/\0=0)/\(0=0/\0=0)/\∀ a b,N<=b->Fresh N b a [D.ag []]->∀ c,b<=c->Q a [] 0 (-1) c))) (∃ a
 : Int,(x0.cell 0)=D.lit (.int .i64 a)/\Br (a==9) (∃ a b,∃ c:Nat,(x0.cell 8)=D.sl a 9 b c/\Br ((b.length:Int)==1) (∃ a,(x0.cell
 1)=D.lit (.string a)/\∃ b,(x0.cell 2)=D.lit (.string b)/\(2=([D.lit (.string a),D.lit (.string b)]).length/\2=2)/\(2=([D.lit (.string a),
 D.lit (.string b)]).length/\2=2)/\∀ c d,N<=d->Fresh N d c [D.ag [D.lit (.string a),D.lit (.string b)]]->∀ e,d<=e->Q c [D.lit
 (.string a),D.lit (.string b)] 2 0 e) ((0=0/\0=0)/\(0=0/\0=0)/\∀ a b,N<=b->Fresh N b a [D.ag []]->∀ c,b<=c->Q
 a [] 0 (-1) c)) ((0=0/\0=0)/\(0=0/\0=0)/\∀ a b,N<=b->Fresh N b a [D.ag []]->∀ c,b<=c->Q a [] 0 (-1) c))))
 (∃ a:Int,(x0.cell 0)=D.lit (.int .i64 a)/\Br (a==8) (∃ a b,∃ c:Nat,(x0.cell 8)=D.sl a 9 b c/\Br ((b.length:Int)==2) (∃
 a,(x0.cell 1)=D.lit (.string a)/\(1=([D.lit (.string a)]).length/\1=1)/\(1=([D.lit (.string a)]).length/\1=1)/\∀ b c,N<=c->Fresh
 N c b [D.ag [D.lit (.string a)]]->∀ d,c<=d->Q b [D.lit (.string a)] 1 1 d) (∃ a:Int,(x0.cell 0)=D.lit (.int .i64 a)/\Br (a
 == 9) (∃ a b,∃ c:Nat,(x0.cell 8)=D.sl a 9 b c/\Br ((b.length:Int)==1) (∃ a,(x0.cell 1)=D.lit (.string a)/\∃ b,(x0.cell 2)
 = D.lit (.string b)/\(2=([D.lit (.string a),D.lit (.string b)]).length/\2=2)/\(2=([D.lit (.string a),D.lit (.string b)]).length/\2=2)/\∀
 c d,N<=d->Fresh N d c [D.ag [D.lit (.string a),D.lit (.string b)]]->∀ e,d<=e->Q c [D.lit (.string a),D.lit (.string b)]
 2 0 e) ((0=0/\0=0)/\(0=0/\0=0)/\∀ a b,N<=b->Fresh N b a [D.ag []]->∀ c,b<=c->Q a [] 0 (-1) c)) ((0=0/\0 =
 0)/\(0=0/\0=0)/\∀ a b,N<=b->Fresh N b a [D.ag []]->∀ c,b<=c->Q a [] 0 (-1) c))) (∃ a:Int,(x0.cell 0)=D.lit (.int
 .i64 a)/\Br (a==9) (∃ a b,∃ c:Nat,(x0.cell 8)=D.sl a 9 b c/\Br ((b.length:Int)==1) (∃ a,(x0.cell 1)=D.lit (.string a)
 /\ ∃ b,(x0.cell 2)=D.lit (.string b)/\(2=([D.lit (.string a),D.lit (.string b)]).length/\2=2)/\(2=([D.lit (.string a),D.lit (.string b)]).length
 /\ 2=2)/\∀ c d,N<=d->Fresh N d c [D.ag [D.lit (.string a),D.lit (.string b)]]->∀ e,d<=e->Q c [D.lit (.string a),D.lit
 (.string b)] 2 0 e) ((0=0/\0=0)/\(0=0/\0=0)/\∀ a b,N<=b->Fresh N b a [D.ag []]->∀ c,b<=c->Q a [] 0 (-1) c))
 ((0=0/\0=0)/\(0=0/\0=0)/\∀ a b,N<=b->Fresh N b a [D.ag []]->∀ c,b<=c->Q a [] 0 (-1) c)))):ACalls prog 76 [.sl 0,.int .i64] [PV.dg 9 x0] N Q:=
  eE (H:=zCl) (by kernel_rfl) (by kernel_rfl) h
theorem rp (N:Nat) (a0:Option Addr) (e0:List D) (c0:Nat) (s1:ByteArray) (Q:QT [.sl 0]) (h :
Bel N (D.sl a0 0 e0 c0)->zw Q N a0 e0 c0 s1 0 0 0 [] 0 N):ACalls prog 77 [.sl 0] [PV.sv a0 0 e0 c0,PV.str s1] N Q:=
 eE (H:=vi) (by kernel_rfl) (by kernel_rfl) h
theorem pT (N:Nat) (a0:Option Addr) (e0:List D) (c0:Nat) (a1:Option Addr) (e1:List D) (c1:Nat) (Q:QT [.row 9 0]) (h :
Bel N (D.sl a0 0 e0 c0)->Bel N (D.sl a1 0 e1 c1)->yA Q N a0 e0 c0 a1 e1 c1 0 0 0 [] 0 N):ACalls prog 78 [.row 9 0] [PV.sv a0 0 e0 c0,PV.sv a1 0 e1 c1] N Q:=
 eE (H:=wT) (by kernel_rfl) (by kernel_rfl) h
theorem zBP (N:Nat) (x0:D) (Q:QT [.sl 0]) (h :
Bel N x0->∃ n:Int,(x0.cell 0)=D.lit (.int .i64 n)/\Br (n==1) (∃ s,(x0.cell 1)=D.lit (.string s)/\(1=([D.lit (.string s)]).length/\1=1)/\(1=([D.lit
 (.string s)]).length/\1=1)/\∀ a b,N<=b->Fresh N b a [D.ag [D.lit (.string s)]]->∀ c,b<=c->Q a [D.lit (.string s)] 1 c) (∀ a,N<=a ->
 ACalls prog 76 [.sl 0,.int .i64] [.dg 9 x0] a (fun b c d e f=>a<=f->Bel f (D.sl b 0 c d)->zg Q N b c d e 0 0 0 x0 []
 0 f))):ACalls prog 21 [.sl 0] [PV.dg 9 x0] N Q:=
  eE (H:=vE) (by kernel_rfl) (by kernel_rfl) h
theorem wv (Q:QT [.sl 0]) (N0:Nat) (a0:Option Addr) (e0:List D) (c0:Nat) (s1:ByteArray) (m5 c5:Nat) (n6:Int) (r0:List D) (q0:Nat) (N:Nat) (h :
Br (decide (n6<(e0.length:Int))) ((0<=n6/\n6<(e0.length:Int))/\∃ s,List.getD e0 n6.toNat default=D.lit (.string s)/\Br (!(ByteArray.toList s==ByteArray.toList
 s1)) ((0<=n6/\n6<(e0.length:Int))/\∃ a,List.getD e0 n6.toNat default=D.lit (.string a)/\(m5=r0.length/\c5=q0)/\zA r0 [D.lit (.string a)]
 16/\∀ (c:Nat),zw Q N0 a0 e0 c0 s1 (r0++[D.lit (.string a)]).length c (IntKind.i64.wrap (n6+1)) (r0++[D.lit (.string a)]) c N) (zw
 Q N0 a0 e0 c0 s1 m5 c5 (IntKind.i64.wrap (n6+1)) r0 q0 N)) ((m5=r0.length/\c5=q0)/\(m5=r0.length/\c5=q0)/\(m5=r0.length/\c5=q0)/\∀ a b,N <=
 b->Fresh N0 b a [D.ag r0]->∀ c,b<=c->Q a r0 q0 c)):zw Q N0 a0 e0 c0 s1 m5 c5 n6 r0 q0 N:=
  hE (H:=vi) (by kernel_rfl) h
theorem vB (Q:QT [.row 9 0]) (N0:Nat) (a0:Option Addr) (e0:List D) (c0:Nat) (a1:Option Addr) (e1:List D) (c1 m5 c5:Nat) (n6:Int) (r0:List D) (q0:Nat) (N:Nat) (h :
Br (decide (n6<(e0.length:Int))) ((0<=n6/\n6<(e0.length:Int))/\∃ s,List.getD e0 n6.toNat default=D.lit (.string s)/\(m5=r0.length/\c5=q0)/\∀
 a,ApA a r0->∀ b,N<=b->vQ b [a]->ACalls prog 22 [.int .i64] [.sv a 0 r0 c5,.str s] b (fun n a=>b<=a->Br (decide (n<0)) ((0<=n6/\n6
 < (e0.length:Int))/\∃ b,List.getD e0 n6.toNat default=D.lit (.string b)/\(m5=r0.length/\c5=q0)/\zA r0 [D.lit (.string b)] 16/\∀ (c:Nat),
 yA Q N0 a0 e0 c0 a1 e1 c1 (r0++[D.lit (.string b)]).length c (IntKind.i64.wrap (n6+1)) (r0++[D.lit (.string b)]) c a) (yA
 Q N0 a0 e0 c0 a1 e1 c1 m5 c5 (IntKind.i64.wrap (n6+1)) r0 q0 a))) (zh Q N0 a1 e1 c1 m5 c5 0 r0 q0 N)):yA Q N0 a0 e0 c0 a1 e1 c1 m5 c5 n6 r0 q0 N:=
  hE (H:=wT) (by kernel_rfl) h
theorem uD (Q:QT [.sl 0]) (N0:Nat) (a3:Option Addr) (e3:List D) (c3:Nat) (n4:Int) (m5 c5:Nat) (n6:Int) (y0:D) (r1:List D) (q1:Nat) (N:Nat) (h :
∃ a b,∃ c:Nat,(y0.cell 8)=D.sl a 9 b c/\Br (decide (n6<(b.length:Int))) (∃ a b,∃ c:Nat,(y0.cell 8)=D.sl a 9 b c/\(0<=n6/\n6
 < (b.length:Int))/\∀ a,N<=a->ACalls prog 21 [.sl 0] [.dg 9 (List.getD b n6.toNat default)] a (fun b c d e=>a<=e->Bel e (D.sl
 b 0 c d)->yJ Q N0 a3 e3 c3 n4 m5 c5 n6 b c d 0 y0 r1 q1 e)) ((m5=r1.length/\c5=q1)/\(m5=r1.length/\c5=q1)/\(m5=r1.length
 /\ c5=q1)/\∀ a b,N<=b->Fresh N0 b a [D.ag r1]->∀ c,b<=c->Q a r1 q1 c)):zg Q N0 a3 e3 c3 n4 m5 c5 n6 y0 r1 q1 N:=
  hE (H:=vE) (by kernel_rfl) h
theorem vM (Q:QT [.row 9 0]) (N0:Nat) (a1:Option Addr) (e1:List D) (c1 m5 c5:Nat) (n7:Int) (r0:List D) (q0:Nat) (N:Nat) (h :
Br (decide (n7<(e1.length:Int))) ((0<=n7/\n7<(e1.length:Int))/\∃ s,List.getD e1 n7.toNat default=D.lit (.string s)/\(m5=r0.length/\c5=q0)/\∀
 a,ApA a r0->∀ b,N<=b->vQ b [a]->ACalls prog 22 [.int .i64] [.sv a 0 r0 c5,.str s] b (fun n a=>b<=a->Br (decide (n<0)) ((0<=n7/\n7
 < (e1.length:Int))/\∃ b,List.getD e1 n7.toNat default=D.lit (.string b)/\(m5=r0.length/\c5=q0)/\zA r0 [D.lit (.string b)] 16/\∀ (c:Nat),
 zh Q N0 a1 e1 c1 (r0++[D.lit (.string b)]).length c (IntKind.i64.wrap (n7+1)) (r0++[D.lit (.string b)]) c a) (zh Q
 N0 a1 e1 c1 m5 c5 (IntKind.i64.wrap (n7+1)) r0 q0 a))) ((m5=r0.length/\c5=q0)/\∀ a,N<=a->Q r0 c5 a)):zh Q N0 a1 e1 c1 m5 c5 n7 r0 q0 N:=
  hE (H:=wT) (by kernel_rfl) h
theorem vw (Q:QT [.sl 0]) (N0:Nat) (a3:Option Addr) (e3:List D) (c3:Nat) (n4:Int) (m5 c5:Nat) (n6:Int) (a7:Option Addr) (e7:List D) (c7:Nat) (n8:Int) (y0:D) (r1:List D) (q1:Nat) (N:Nat) (h :
Br (decide (n8<(e3.length:Int))) (Br (n6==n4) ((0<=n8/\n8<(e3.length:Int))/\∃ s,List.getD e3 n8.toNat default=D.lit (.string s)/\∀ b,N<=b
 -> ACalls prog 77 [.sl 0] [.sv a7 0 e7 c7,.str s] b (fun a c d e=>b<=e->Bel e (D.sl a 0 c d)->yJ Q N0 a3 e3 c3 n4 m5 c5 n6 a c
 d (IntKind.i64.wrap (n8+1)) y0 r1 q1 e)) ((m5=r1.length/\c5=q1)/\∀ a,ApA a r1->Off [a] (D.sl a7 0 e7 c7)->∀ b,N<=b->vQ b [a]->ACalls
 prog 78 [.row (OfNat.ofNat 9) 0] [.sv a 0 r1 c5,.sv a7 0 e7 c7] b (fun c d e=>b<=e->Off [a] (D.ag c)/\(Bel e (D.ag c)->zg
 Q N0 a3 e3 c3 n4 c.length d (IntKind.i64.wrap (n6+1)) y0 c d e)))) ((m5=r1.length/\c5=q1)/\∀ a,ApA a r1->Off [a] (D.sl a7 0 e7 c7) ->
 ∀ b,N<=b->vQ b [a]->ACalls prog 78 [.row (OfNat.ofNat 9) 0] [.sv a 0 r1 c5,.sv a7 0 e7 c7] b (fun c d e=>b<=e->Off [a] (D.ag
 c)/\(Bel e (D.ag c)->zg Q N0 a3 e3 c3 n4 c.length d (IntKind.i64.wrap (n6+1)) y0 c d e)))):yJ Q N0 a3 e3 c3 n4 m5 c5 n6 a7 e7 c7 n8 y0 r1 q1 N:=
  hE (H:=vE) (by kernel_rfl) h
end Go.Proofs.YtkdjhkfiolhkiaaGreat
set_option maxRecDepth 100000
namespace Go.Proofs.YtkdjhkfiolhkiaaGreat
open Go Go.Proofs Go.Proofs.Tryz
end Go.Proofs.YtkdjhkfiolhkiaaGreat
