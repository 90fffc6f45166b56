/- Printed by gen.py: what the functions come to. -/
import Derived.Test.YtkdjhkfiolhkiaaGreatJh
set_option linter.unusedVariables false
set_option maxRecDepth 100000
namespace Go.Proofs.YtkdjhkfiolhkiaaGreat
open Go Go.Proofs Go.Proofs.Tryz
end Go.Proofs.YtkdjhkfiolhkiaaGreat
set_option maxRecDepth 100000
namespace Go.Proofs.YtkdjhkfiolhkiaaGreat
open Go Go.Proofs Go.Proofs.Tryz
def t9:Hint:=⟨[hc 5 [3,11,12,13]],[],[(7,hs 18 [ec 7 [24]])]⟩
def sN:Hint:=⟨[hc 6 [3,4,7,26,27,28] [(7,65,4)]],[],[(1,hs 3 [ec 1 [10]]),(2,hs 12 [ec 5 [16]]),(10,hs 7 [ec 2 [42]])]⟩
def qQ:Hint:=⟨[hc 3 [3,7,8,9]],[],[(5,hs 5 [ec 2 [14]])]⟩
def zEO:Hint:=⟨[],[],[]⟩
def zAK:Hint:=⟨[],[],[(1,hs 13 [ec 1 [3],ec 4 [6],ec 9 [11]])]⟩
def pq:Hint:=⟨[hc 3 [3,7,8,9]],[],[(5,hs 5 [ec 2 [14]])]⟩
def uw:Hint:=⟨[hc 3 [3,7,8,9] [(3,9,0)]],[],[]⟩
def tn:Hint:=⟨[hc 3 [0,3,4] [(3,9,0)]],[],[(5,hs 26 [ec 13 [24]])]⟩
def zDY:Hint:=⟨[],[],[(1,hs 13 [ec 5 [12],ec 10 [17]]),(3,[en 0,en 2,en 7,eh 1,ec 3 [25],en 4,en 5,en 6,eh 8,en 9])]⟩
def r7:Hint:=⟨[hc 3 [1,3,4]],[],[(5,hs 9 [ec 6 [17]])]⟩
def qM:Hint:=⟨[hc 2 [0,1,5]],[],[]⟩
def pM:Hint:=⟨[],[],[(1,hs 13 [ec 1 [3],ec 5 [7],ec 10 [12]])]⟩
def qv:Hint:=⟨[hc 3 [0,3,4] [(3,65,4)]],[],[(5,[en 0,en 1,en 2,en 3,en 4,en 5,en 6,en 7,en 8,en 9,en 10,en 11,en 12,eh 13,eh 14])]⟩
def zBX:Hint:=⟨[hc 2 [1,3]],[],[(4,hs 7 [ec 5 [15]])]⟩
def pi:Hint:=⟨[hc 3 [1,2,5]],[],[(5,hs 8 [ec 6 [23]])]⟩
def zBe:Hint:=⟨[],[],[(1,hs 11 [ec 2 [6]])]⟩
def vn:Hint:=⟨[],[],[]⟩
def x9:Hint:=⟨[hc 2 [0,1,7,8]],[],[(4,hs 6 [ec 5 [15]])]⟩
def pU:Hint:=⟨[],[],[(1,hs 5 [ec 2 [4]])]⟩
def yw (Q:QT [.bool]) (N0:Nat) (a3:Option Addr) (e3:List D) (c3:Nat) (a11:Option Addr) (e11:List D) (c11:Nat) (n12 n13:Int) (N:Nat):Prop:=AT prog 135 [.bool] Q N0 .ord (zC prog 135 5) ⟨an 3 (.sv a3 0 e3 c3::an 7 (.sv a11 4 e11 c11::.int .i64 n12::.int .i64 n13::an 23 [])),[],N,none⟩
def xJ (Q:QT [.ag 2,.bool]) (N0:Nat) (m7 c7:Nat) (a26:Option Addr) (e26:List D) (c26:Nat) (n27 n28:Int) (y0:D) (n1_0:Int) (a1_1:Option Addr) (e1_1:List D) (c1_1:Nat) (r2:List D) (q2:Nat) (N:Nat):Prop:=AT prog 64 [.ag 2,.bool] Q N0 .ord (zC prog 64 6) ⟨an 3 (.pb 0 0 0 0::.pb 1 0 0 0::an 2 (.sb 2 4 0 m7 c7::an 18 (.sv a26 4 e26 c26::.int .i64 n27::.int .i64 n28::an 17 []))),[.vd y0 9,.var [.int .i64 n1_0,.sv a1_1 2 e1_1 c1_1],.arr 65 4 r2 q2],N,none⟩
def xa (Q:QT [.int .i64]) (N0:Nat) (n3:Int) (a7:Option Addr) (e7:List D) (c7:Nat) (n8 n9:Int) (N:Nat):Prop:=AT prog 169 [.int .i64] Q N0 .ord (zC prog 169 3) ⟨an 3 (.int .i64 n3::an 3 (.sv a7 9 e7 c7::.int .i64 n8::.int .i64 n9::an 10 [])),[],N,none⟩
def wB (Q:QT [.int .i64]) (N0:Nat) (n3:Int) (a7:Option Addr) (e7:List D) (c7:Nat) (n8 n9:Int) (N:Nat):Prop:=AT prog 84 [.int .i64] Q N0 .ord (zC prog 84 3) ⟨an 3 (.int .i64 n3::an 3 (.sv a7 9 e7 c7::.int .i64 n8::.int .i64 n9::an 9 [])),[],N,none⟩
def ye (Q:QT [.sl 0]) (N0:Nat) (m3 c3:Nat) (a7:Option Addr) (e7:List D) (c7:Nat) (n8 n9:Int) (r0:List D) (q0:Nat) (N:Nat):Prop:=AT prog 190 [.sl 0] Q N0 .ord (zC prog 190 3) ⟨an 3 (.sb 0 0 0 m3 c3::an 3 (.sv a7 4 e7 c7::.int .i64 n8::.int .i64 n9::an 10 [])),[.arr 9 0 r0 q0],N,none⟩
def y7 (Q:QT [.bool]) (N0:Nat) (a0:Option Addr) (e0:List D) (c0 m3 c3:Nat) (n4:Int) (r0:List D) (q0:Nat) (N:Nat):Prop:=AT prog 139 [.bool] Q N0 .ord (zC prog 139 3) ⟨.sv a0 4 e0 c0::an 2 (.sb 0 0 0 m3 c3::.int .i64 n4::an 44 []),[.arr 9 0 r0 q0],N,none⟩
def xb (Q:QT [.int .i64]) (N0:Nat) (n3 n4:Int) (y0:D) (N:Nat):Prop:=AT prog 171 [.int .i64] Q N0 .ord (zC prog 171 3) ⟨an 1 (.pb 0 0 0 0::an 1 (.int .i64 n3::.int .i64 n4::an 17 [])),[.vd y0 9],N,none⟩
def xi (Q:QT [.int .i64]) (N0:Nat) (a0:Option Addr) (e0:List D) (c0:Nat) (s1:ByteArray) (n5:Int) (N:Nat):Prop:=AT prog 22 [.int .i64] Q N0 .ord (zC prog 22 2) ⟨.sv a0 0 e0 c0::.str s1::an 3 (.int .i64 n5::an 13 []),[],N,none⟩
def xG (Q:QT [.sl 4]) (N0:Nat) (a0:Option Addr) (e0:List D) (c0 m3 c3:Nat) (n4:Int) (r0:List D) (q0:Nat) (N:Nat):Prop:=AT prog 87 [.sl 4] Q N0 .ord (zC prog 87 3) ⟨.sv a0 4 e0 c0::an 2 (.sb 0 4 0 m3 c3::.int .i64 n4::an 22 []),[.arr 65 4 r0 q0],N,none⟩
def ww (Q:QT [.bool]) (N0:Nat) (n3:Int) (y0:D) (N:Nat):Prop:=AT prog 140 [.bool] Q N0 .ord (zC prog 140 2) ⟨an 1 (.pb 0 0 0 0::an 1 (.int .i64 n3::an 22 [])),[.vd y0 9],N,none⟩
def wQ (Q:QT [.int .i64]) (N0:Nat) (n1 n5:Int) (y0:D) (N:Nat):Prop:=AT prog 170 [.int .i64] Q N0 .ord (zC prog 170 3) ⟨an 1 (.int .i64 n1::.pb 0 0 0 0::an 2 (.int .i64 n5::an 21 [])),[.vd y0 9],N,none⟩
def zh (Q:QT [.int .i64]) (N0:Nat) (a0:Option Addr) (e0:List D) (c0:Nat) (a1_0:Addr) (n7 n8:Int) (N:Nat):Prop:=AT prog 236 [.int .i64] Q N0 .ord (zC prog 236 2) ⟨.sv a0 9 e0 c0::.fn 189 [.pd a1_0 0 (.fn 134 [])]::an 5 (.int .i64 n7::.int .i64 n8::an 10 []),[],N,none⟩
theorem zBq (N:Nat) (a0:Option Addr) (e0:List D) (c0:Nat) (Q:QT [.bool]) (h :
Bel N (D.sl a0 4 e0 c0)->Br (decide ((e0.length:Int)>5)) (∀ a,N<=a->Q false a) (∀ b,N<=b->ACalls prog 190 [.sl 0] [.sv a0 4 e0 c0] b (fun
 a c d e=>b<=e->Bel e (D.sl a 0 c d)->yw Q N a c d a0 e0 c0 (e0.length:Int) 0 e))):ACalls prog 135 [.bool] [PV.sv a0 4 e0 c0] N Q:=
  eE (H:=t9) (by kernel_rfl) (by kernel_rfl) h
theorem zDN (N:Nat) (a0:Option Addr) (e0:List D) (c0:Nat) (x1:D) (Q:QT [.ag 2,.bool]) (h :
Bel N (D.sl a0 4 e0 c0)->Bel N x1->∀ a,N<=a->ACalls prog 133 [.bool] [.dg 9 x1,.fn 134 []] a (fun b c=>a<=c->∀ a,c<=a->ACalls prog
 135 [.bool] [.sv a0 4 e0 c0] a (fun c d=>a<=d->Br (!c) (∀ a,d<=a->Q (D.ag [D.lit (.int .i64 0),D.sl Option.none 2 [] 0]) false a) (∀
 a,d<=a->ACalls prog 105 [.bool] [.dg 9 x1] a (fun c d=>a<=d->Br (!c) (∀ a,d<=a->Q (D.ag [D.lit (.int .i64 0),D.sl Option.none
 2 [] 0]) false a) (Br (!b) (∀ a,d<=a->Q (D.ag [D.lit (.int .i64 0),D.sl Option.none 2 [] 0]) false a) (xJ Q N 0 0 a0 e0 c0 (e0.length
 : Int) 0 x1 0 Option.none [] 0 [] 0 d))))))):ACalls prog 64 [.ag 2,.bool] [PV.sv a0 4 e0 c0,PV.dg 9 x1] N Q:=
  eE (H:=sN) (by kernel_rfl) (by kernel_rfl) h
theorem zEC (N:Nat) (x0:D) (Q:QT [.int .i64]) (h :
Bel N x0->∃ a b,∃ c:Nat,(x0.cell 8)=D.sl a 9 b c/\xa Q N 0 a b c (b.length:Int) 0 N):ACalls prog 169 [.int .i64] [PV.dg 9 x0] N Q:=
 eE (H:=qQ) (by kernel_rfl) (by kernel_rfl) h
theorem zDn (N:Nat) (a0:Option Addr) (e0:List D) (c0:Nat) (s1:ByteArray) (Q:QT [.int .i64]) (h :
Bel N (D.sl a0 0 e0 c0)->∀ a,N<=a->ACalls prog 219 [.int .i64] [.sv a0 0 e0 c0,.str s1] a (fun n b=>a<=b->∀ a,b<=a->Q n a)):ACalls prog 191 [.int .i64] [PV.sv a0 0 e0 c0,PV.str s1] N Q:=
 eE (H:=zEO) (by kernel_rfl) (by kernel_rfl) h
theorem zAO (N:Nat) (x0:D) (Q:QT [.bool]) (h :
Bel N x0->∀ a,N<=a->ACalls prog 119 [.bool] [.dg 9 x0] a (fun b c=>a<=c->Br b (∀ a,c<=a->ACalls prog 84 [.int .i64] [.dg 9 x0] a (fun
 n b=>a<=b->Br (decide (n<=80)) (∀ a,b<=a->ACalls prog 169 [.int .i64] [.dg 9 x0] a (fun b c=>a<=c->∀ a,c<=a->Q (decide
 (b<=20)) a)) (∀ a,b<=a->Q false a))) (∀ a,c<=a->Q false a))):ACalls prog 105 [.bool] [PV.dg 9 x0] N Q:=
  eE (H:=zAK) (by kernel_rfl) (by kernel_rfl) h
theorem zFX (N:Nat) (x0:D) (Q:QT [.int .i64]) (h :
Bel N x0->∃ a b,∃ c:Nat,(x0.cell 8)=D.sl a 9 b c/\wB Q N 1 a b c (b.length:Int) 0 N):ACalls prog 84 [.int .i64] [PV.dg 9 x0] N Q:=
 eE (H:=pq) (by kernel_rfl) (by kernel_rfl) h
theorem zAc (N:Nat) (a0:Option Addr) (e0:List D) (c0:Nat) (Q:QT [.sl 0]) (h :
Bel N (D.sl a0 4 e0 c0)->ye Q N 0 0 a0 e0 c0 (e0.length:Int) 0 [] 0 N):ACalls prog 190 [.sl 0] [PV.sv a0 4 e0 c0] N Q:=
 eE (H:=uw) (by kernel_rfl) (by kernel_rfl) h
theorem zCC (N:Nat) (a0:Option Addr) (e0:List D) (c0:Nat) (Q:QT [.bool]) (h :
Bel N (D.sl a0 4 e0 c0)->y7 Q N a0 e0 c0 0 0 0 [] 0 N):ACalls prog 139 [.bool] [PV.sv a0 4 e0 c0] N Q:=
 eE (H:=tn) (by kernel_rfl) (by kernel_rfl) h
theorem zDb (N:Nat) (a0:Option Addr) (e0:List D) (c0:Nat) (x1:D) (Q:QT [.ag 2,.bool]) (h :
Bel N (D.sl a0 4 e0 c0)->Bel N x1->∀ d,N<=d->ACalls prog 139 [.bool] [.sv a0 4 e0 c0] d (fun b e=>d<=e->Br (!b) (∀ a,e<=a->Q (D.ag
 [D.lit (.int .i64 0),D.sl Option.none 2 [] 0]) false a) (∀ b,e<=b->ACalls prog 106 [.bool] [.dg 9 x1] b (fun d e=>b<=e->Br (!d) (∀ a,
 e<=a->Q (D.ag [D.lit (.int .i64 0),D.sl Option.none 2 [] 0]) false a) (∀ b,e<=b->ACalls prog 140 [.bool] [.dg 9 x1] b (fun d e=>b<=e
 -> Br (!d) (∀ a,e<=a->Q (D.ag [D.lit (.int .i64 0),D.sl Option.none 2 [] 0]) false a) (∀ b,e<=b->ACalls prog 87 [.sl 4] [.sv a0 4 e0 c0]
 b (fun a c d e=>b<=e->Bel e (D.sl a 4 c d)->∀ b,e<=b->ACalls prog 97 [.ag 2,.bool] [.sv a 4 c d,.dg 9 x1,.int .i64 0] b
 (fun x a c=>b<=c->Bel c x->∀ b,c<=b->Q x a b))))))))):ACalls prog 68 [.ag 2,.bool] [PV.sv a0 4 e0 c0,PV.dg 9 x1] N Q:=
  eE (H:=zDY) (by kernel_rfl) (by kernel_rfl) h
theorem zDu (N:Nat) (x0:D) (Q:QT [.int .i64]) (h :
Bel N x0->xb Q N 0 0 x0 N):ACalls prog 171 [.int .i64] [PV.dg 9 x0] N Q:=
 eE (H:=r7) (by kernel_rfl) (by kernel_rfl) h
theorem zD8 (N:Nat) (a0:Option Addr) (e0:List D) (c0:Nat) (s1:ByteArray) (Q:QT [.int .i64]) (h :
Bel N (D.sl a0 0 e0 c0)->xi Q N a0 e0 c0 s1 0 N):ACalls prog 22 [.int .i64] [PV.sv a0 0 e0 c0,PV.str s1] N Q:=
 eE (H:=qM) (by kernel_rfl) (by kernel_rfl) h
theorem pO (N:Nat) (x0:D) (Q:QT [.bool]) (h :
Bel N x0->∀ a,N<=a->ACalls prog 170 [.int .i64] [.dg 9 x0,.int .i64 80] a (fun n c=>a<=c->Br (decide (n≥0)) (∀ a,c<=a->ACalls prog
 171 [.int .i64] [.dg 9 x0] a (fun c d=>a<=d->Br (decide (c<=20)) (∀ a,d<=a->ACalls prog 122 [.bool] [.dg 9 x0] a (fun b c=>a <=
 c->∀ a,c<=a->Q b a)) (∀ a,d<=a->Q false a))) (∀ a,c<=a->Q false a))):ACalls prog 106 [.bool] [PV.dg 9 x0] N Q:=
  eE (H:=pM) (by kernel_rfl) (by kernel_rfl) h
theorem pT (N:Nat) (a0:Option Addr) (e0:List D) (c0:Nat) (Q:QT [.sl 4]) (h :
Bel N (D.sl a0 4 e0 c0)->xG Q N a0 e0 c0 0 0 0 [] 0 N):ACalls prog 87 [.sl 4] [PV.sv a0 4 e0 c0] N Q:=
 eE (H:=qv) (by kernel_rfl) (by kernel_rfl) h
theorem zH8 (N:Nat) (x0:D) (Q:QT [.bool]) (h :
Bel N x0->ww Q N 0 x0 N):ACalls prog 140 [.bool] [PV.dg 9 x0] N Q:=
 eE (H:=zBX) (by kernel_rfl) (by kernel_rfl) h
theorem zFh (N:Nat) (x0:D) (n1:Int) (Q:QT [.int .i64]) (h :
Bel N x0->wQ Q N (IntKind.i64.wrap (n1 - 1)) 0 x0 N):ACalls prog 170 [.int .i64] [PV.dg 9 x0,PV.int .i64 n1] N Q:=
 eE (H:=pi) (by kernel_rfl) (by kernel_rfl) h
theorem ud (Q:QT [.bool]) (N0:Nat) (a3:Option Addr) (e3:List D) (c3:Nat) (a11:Option Addr) (e11:List D) (c11:Nat) (n12 n13:Int) (N:Nat) (h :
Br (decide (n13<n12)) ((0<=n13/\n13<(e11.length:Int))/\∃ s,D.cell (List.getD e11 n13.toNat default) 0=D.lit (.string s)/\∀ a,N<=a->ACalls prog
 113 [.bool] [.str s] a (fun b c=>a<=c->Br (!b) (∀ a,c<=a->Q false a) (∀ a,c<=a->ACalls prog 102 [.bool] [.dg 2 (D.sub (List.getD
 e11 n13.toNat default) 1 2)] a (fun b c=>a<=c->Br (!b) (∀ a,c<=a->Q false a) (∃ a,D.cell (List.getD e11 n13.toNat default) 0=D.lit
 (.string a)/\∀ b,c<=b->ACalls prog 191 [.int .i64] [.sv a3 0 e3 c3,.str a] b (fun n a=>b<=a->Br (bne n n13) (∀ b,a<=b->Q false
 b) (yw Q N0 a3 e3 c3 a11 e11 c11 n12 (IntKind.i64.wrap (n13+1)) a))))))) (∀ a,N<=a->Q true a)):yw Q N0 a3 e3 c3 a11 e11 c11 n12 n13 N:=
  hE (H:=t9) (by kernel_rfl) h
theorem qZ (N:Nat) (x0:D) (Q:QT [.bool]) (h :
Bel N x0->∀ d,N<=d->ACalls prog 134 [.bool] [.dg 9 x0] d (fun b e=>d<=e->Br b (∃ a b,∃ c:Nat,(x0.cell 8)=D.sl a 9 b c/\∀ d,ApA (Option.some
 d) [D.fn (OfNat.ofNat 134) []]->Off [Option.some d] (D.sl a 9 b c)->∀ f,e<=f->vw f [Option.some d]->ACalls prog 188 [.bool] [.sv a 9 b c,.fn
 189 [.pd d 0 (.fn 134 [])]] f (fun a b=>f<=b->∀ c,b<=c->Q (!a) c)) (∀ a,e<=a->Q false a))):ACalls prog 133 [.bool] [.dg 9 x0,.fn 134 []] N Q:=
  eE (H:=zBe) (by kernel_rfl) (by kernel_rfl) h
theorem tH (Q:QT [.ag 2,.bool]) (N0:Nat) (m7 c7:Nat) (a26:Option Addr) (e26:List D) (c26:Nat) (n27 n28:Int) (y0:D) (n1_0:Int) (a1_1:Option Addr) (e1_1:List D) (c1_1:Nat) (r2:List D) (q2:Nat) (N:Nat) (h :
Br (decide (n28<n27)) ((0<=n28/\n28<(e26.length:Int))/\∃ s,D.cell (List.getD e26 n28.toNat default) 0=D.lit (.string s)/\(m7=r2.length/\c7=q2)
 /\ zA r2 [D.ag [D.lit (.string s),D.cell (D.sub (List.getD e26 n28.toNat default) 1 2) 0,D.cell (D.sub (List.getD e26 n28.toNat default) 1 2) 1,D.lit (.int
 .i64 0)]] 56/\∀ (c:Nat),xJ Q N0 (r2++[D.ag [D.lit (.string s),D.cell (D.sub (List.getD e26 n28.toNat default) 1 2) 0,D.cell (D.sub (List.getD
 e26 n28.toNat default) 1 2) 1,D.lit (.int .i64 0)]]).length c a26 e26 c26 n27 (IntKind.i64.wrap (n28+1)) y0 n1_0 a1_1 e1_1 c1_1 (r2++[D.ag [D.lit (.string s),
 D.cell (D.sub (List.getD e26 n28.toNat default) 1 2) 0,D.cell (D.sub (List.getD e26 n28.toNat default) 1 2) 1,D.lit (.int .i64 0)]]) c N) ((m7=r2.length/\c7
 = q2)/\∀ a,ApA a r2->Off [a] y0->∀ c,N<=c->vw c [a]->ACalls prog 31 [.ag 2,.bool] [.sv a 4 r2 c7,.dg 9 y0,.int .i64 0] c (fun x b d=>c
 <= d->Off [a] x/\(Bel d x->∀ a,d<=a->Q x b a)))):xJ Q N0 m7 c7 a26 e26 c26 n27 n28 y0 n1_0 a1_1 e1_1 c1_1 r2 q2 N:=
  hE (H:=sN) (by kernel_rfl) h
theorem t7 (Q:QT [.int .i64]) (N0:Nat) (n3:Int) (a7:Option Addr) (e7:List D) (c7:Nat) (n8 n9:Int) (N:Nat) (h :
Br (decide (n9<n8)) ((0<=n9/\n9<(e7.length:Int))/\∀ a,N<=a->ACalls prog 169 [.int .i64] [.dg 9 (List.getD e7 n9.toNat default)] a (fun n b=>
 a<=b->xa Q N0 (if n>n3 then n else n3) a7 e7 c7 n8 (IntKind.i64.wrap (n9+1)) b)) (∀ a,N<=a->Q (IntKind.i64.wrap (n3+1)) a)):xa Q N0 n3 a7 e7 c7 n8 n9 N:=
  hE (H:=qQ) (by kernel_rfl) h
theorem sa (Q:QT [.int .i64]) (N0:Nat) (n3:Int) (a7:Option Addr) (e7:List D) (c7:Nat) (n8 n9:Int) (N:Nat) (h :
Br (decide (n9<n8)) ((0<=n9/\n9<(e7.length:Int))/\∀ a,N<=a->ACalls prog 84 [.int .i64] [.dg 9 (List.getD e7 n9.toNat default)] a (fun n b=>
 a<=b->wB Q N0 (IntKind.i64.wrap (n3+n)) a7 e7 c7 n8 (IntKind.i64.wrap (n9+1)) b)) (∀ a,N<=a->Q n3 a)):wB Q N0 n3 a7 e7 c7 n8 n9 N:=
  hE (H:=pq) (by kernel_rfl) h
theorem v8 (Q:QT [.sl 0]) (N0:Nat) (m3 c3:Nat) (a7:Option Addr) (e7:List D) (c7:Nat) (n8 n9:Int) (r0:List D) (q0:Nat) (N:Nat) (h :
Br (decide (n9<n8)) ((0<=n9/\n9<(e7.length:Int))/\∃ s,D.cell (List.getD e7 n9.toNat default) 0=D.lit (.string s)/\(m3=r0.length/\c3=q0)/\zA
 r0 [D.lit (.string s)] 16/\∀ (c:Nat),ye Q N0 (r0++[D.lit (.string s)]).length c a7 e7 c7 n8 (IntKind.i64.wrap (n9+1)) (r0++[D.lit (.string
 s)]) c N) ((m3=r0.length/\c3=q0)/\(m3=r0.length/\c3=q0)/\(m3=r0.length/\c3=q0)/\∀ a b,N<=b->Fresh N0 b a [D.ag r0]->∀ c,b<=c
 -> Q a r0 q0 c)):ye Q N0 m3 c3 a7 e7 c7 n8 n9 r0 q0 N:=
  hE (H:=uw) (by kernel_rfl) h
theorem uS (Q:QT [.bool]) (N0:Nat) (a0:Option Addr) (e0:List D) (c0 m3 c3:Nat) (n4:Int) (r0:List D) (q0:Nat) (N:Nat) (h :
Br (decide (n4<(e0.length:Int))) ((0<=n4/\n4<(e0.length:Int))/\∃ s,(if 0=0 then D.cell (List.getD e0 n4.toNat default) 0 else D.sub (List.getD e0 n4.toNat
 default) 0 0)=D.lit (.string s)/\∀ d,N<=d->ACalls prog 116 [.bool] [.str s] d (fun b e=>d<=e->Br (!b) (∀ a,e<=a->Q false a) ((0
 <= n4/\n4<(e0.length:Int))/\∀ b,e<=b->ACalls prog 108 [.bool] [.dg 2 (if 2=0 then D.cell (List.getD e0 n4.toNat default) 1 else D.sub (List.getD
 e0 n4.toNat default) 1 2)] b (fun d e=>b<=e->Br (!d) (∀ a,e<=a->Q false a) ((0<=n4/\n4<(e0.length:Int))/\∃ b,(if 0=0 then
 D.cell (List.getD e0 n4.toNat default) 0 else D.sub (List.getD e0 n4.toNat default) 0 0)=D.lit (.string b)/\(m3=r0.length/\c3=q0)/\∀ a,ApA a r0->∀ d,
 e<=d->vw d [a]->ACalls prog 22 [.int .i64] [.sv a 0 r0 c3,.str b] d (fun n a=>d<=a->Br (decide (n≥0)) (∀ b,a<=b->Q false b)
 ((0<=n4/\n4<(e0.length:Int))/\∃ b,(if 0=0 then D.cell (List.getD e0 n4.toNat default) 0 else D.sub (List.getD e0 n4.toNat default) 0 0)=D.lit (.string
 b)/\(m3=r0.length/\c3=q0)/\zA r0 [D.lit (.string b)] 16/\∀ (c:Nat),y7 Q N0 a0 e0 c0 (r0++[D.lit (.string b)]).length c (IntKind.i64.wrap
 (n4+1)) (r0++[D.lit (.string b)]) c a))))))) (∀ a,N<=a->Q (decide ((m3:Int)<=5)) a)):y7 Q N0 a0 e0 c0 m3 c3 n4 r0 q0 N:=
  hE (H:=tn) (by kernel_rfl) h
theorem t3 (Q:QT [.int .i64]) (N0:Nat) (n3 n4:Int) (y0:D) (N:Nat) (h :
∃ a b,∃ c:Nat,(y0.cell 8)=D.sl a 9 b c/\Br (decide (n4<(b.length:Int))) (∃ a b,∃ c:Nat,(y0.cell 8)=D.sl a 9 b c/\(0<=n4/\n4
 < (b.length:Int))/\∀ a,N<=a->ACalls prog 171 [.int .i64] [.dg 9 (List.getD b n4.toNat default)] a (fun n b=>a<=b->∀ a,b<=a ->
 ACalls prog 168 [.int .i64] [.int .i64 n3,.int .i64 n] a (fun b c=>a<=c->xb Q N0 b (IntKind.i64.wrap (n4+1)) y0 c))) (∀ a,N
 <= a->Q (IntKind.i64.wrap (n3+1)) a)):xb Q N0 n3 n4 y0 N:=
  hE (H:=r7) (by kernel_rfl) h
theorem sA (Q:QT [.int .i64]) (N0:Nat) (a0:Option Addr) (e0:List D) (c0:Nat) (s1:ByteArray) (n5:Int) (N:Nat) (h :
Br (decide (n5<(e0.length:Int))) ((0<=n5/\n5<(e0.length:Int))/\∃ s,List.getD e0 n5.toNat default=D.lit (.string s)/\Br (ByteArray.toList s==ByteArray.toList
 s1) (∀ a,N<=a->Q n5 a) (xi Q N0 a0 e0 c0 s1 (IntKind.i64.wrap (n5+1)) N)) (∀ a,N<=a->Q (-1) a)):xi Q N0 a0 e0 c0 s1 n5 N:=
  hE (H:=qM) (by kernel_rfl) h
theorem wP (Q:QT [.sl 4]) (N0:Nat) (a0:Option Addr) (e0:List D) (c0 m3 c3:Nat) (n4:Int) (r0:List D) (q0:Nat) (N:Nat) (h :
Br (decide (n4<(e0.length:Int))) ((0<=n4/\n4<(e0.length:Int))/\∃ s,(if 0=0 then D.cell (List.getD e0 n4.toNat default) 0 else D.sub (List.getD e0 n4.toNat
 default) 0 0)=D.lit (.string s)/\(0<=n4/\n4<(e0.length:Int))/\(m3=r0.length/\c3=q0)/\zA r0 [D.ag [D.lit (.string s),D.cell (if 2=0 then D.cell
 (List.getD e0 n4.toNat default) 1 else D.sub (List.getD e0 n4.toNat default) 1 2) 0,D.cell (if 2=0 then D.cell (List.getD e0 n4.toNat default) 1 else D.sub (List.getD
 e0 n4.toNat default) 1 2) 1,D.lit (.int .i64 0)]] 56/\∀ (c:Nat),xG Q N0 a0 e0 c0 (r0++[D.ag [D.lit (.string s),D.cell (if 2=0 then D.cell
 (List.getD e0 n4.toNat default) 1 else D.sub (List.getD e0 n4.toNat default) 1 2) 0,D.cell (if 2=0 then D.cell (List.getD e0 n4.toNat default) 1 else D.sub (List.getD
 e0 n4.toNat default) 1 2) 1,D.lit (.int .i64 0)]]).length c (IntKind.i64.wrap (n4+1)) (r0++[D.ag [D.lit (.string s),D.cell (if 2=0 then D.cell (List.getD
 e0 n4.toNat default) 1 else D.sub (List.getD e0 n4.toNat default) 1 2) 0,D.cell (if 2=0 then D.cell (List.getD e0 n4.toNat default) 1 else D.sub (List.getD e0
 n4.toNat default) 1 2) 1,D.lit (.int .i64 0)]]) c N) ((m3=r0.length/\c3=q0)/\(m3=r0.length/\c3=q0)/\(m3=r0.length/\c3=q0)/\∀ a b,N<=b ->
 Fresh N0 b a [D.ag r0]->∀ c,b<=c->Q a r0 q0 c)):xG Q N0 a0 e0 c0 m3 c3 n4 r0 q0 N:=
  hE (H:=qv) (by kernel_rfl) h
theorem r5 (Q:QT [.bool]) (N0:Nat) (n3:Int) (y0:D) (N:Nat) (h :
∃ a d,∃ c:Nat,(y0.cell 8)=D.sl a 9 d c/\Br (decide (n3<(d.length:Int))) (∃ a c,∃ d:Nat,(y0.cell 8)=D.sl a 9 c d/\(0<=n3/\n3
 < (c.length:Int))/\∀ a,N<=a->ACalls prog 140 [.bool] [.dg 9 (List.getD c n3.toNat default)] a (fun b c=>a<=c->Br (!b) (∀ a,c<=a
 -> Q false a) (ww Q N0 (IntKind.i64.wrap (n3+1)) y0 c))) (∃ n:Int,(y0.cell 0)=D.lit (.int .i64 n)/\∀ a,N<=a->ACalls prog 117 [.bool]
 [.int .i64 n,.int .i64 1,.int .i64 5] a (fun b c=>a<=c->Br b (∀ a,c<=a->Q true a) (∃ a:Int,(y0.cell 0)=D.lit (.int .i64 a)
 /\ ∀ b,c<=b->Q (a==8) b)))):ww Q N0 n3 y0 N:=
  hE (H:=zBX) (by kernel_rfl) h
theorem sk (Q:QT [.int .i64]) (N0:Nat) (n1 n5:Int) (y0:D) (N:Nat) (h :
∃ a b,∃ c:Nat,(y0.cell 8)=D.sl a 9 b c/\Br (decide (n5<(b.length:Int))) (Br (decide (n1≥0)) (∃ a b,∃ c:Nat,(y0.cell 8)=D.sl a 9 b
 c/\(0<=n5/\n5<(b.length:Int))/\∀ a,N<=a->ACalls prog 170 [.int .i64] [.dg 9 (List.getD b n5.toNat default),.int .i64 n1] a (fun n b=>
 a<=b->wQ Q N0 n (IntKind.i64.wrap (n5+1)) y0 b)) (∀ a,N<=a->Q n1 a)) (∀ a,N<=a->Q n1 a)):wQ Q N0 n1 n5 y0 N:=
  hE (H:=pi) (by kernel_rfl) h
theorem wy (N:Nat) (a0:Option Addr) (e0:List D) (c0:Nat) (a1_0:Addr) (Q:QT [.bool]) (h :
Bel N (D.sl a0 9 e0 c0)->∀ a,N<=a->ACalls prog 236 [.int .i64] [.sv a0 9 e0 c0,.fn 189 [.pd a1_0 0 (.fn 134 [])]] a (fun n b=>a<=b->∀ a,b
 <= a->Q (decide (n≥0)) a)):ACalls prog 188 [.bool] [.sv a0 9 e0 c0,.fn 189 [.pd a1_0 0 (.fn 134 [])]] N Q:=
  eE (H:=vn) (by kernel_rfl) (by kernel_rfl) h
theorem vu (N:Nat) (a0:Option Addr) (e0:List D) (c0:Nat) (a1_0:Addr) (Q:QT [.int .i64]) (h :
Bel N (D.sl a0 9 e0 c0)->zh Q N a0 e0 c0 a1_0 (e0.length:Int) 0 N):ACalls prog 236 [.int .i64] [.sv a0 9 e0 c0,.fn 189 [.pd a1_0 0 (.fn 134 [])]] N Q:=
 eE (H:=x9) (by kernel_rfl) (by kernel_rfl) h
theorem xO (Q:QT [.int .i64]) (N0:Nat) (a0:Option Addr) (e0:List D) (c0:Nat) (a1_0:Addr) (n7 n8:Int) (N:Nat) (h :
Br (decide (n8<n7)) ((0<=n8/\n8<(e0.length:Int))/\∀ a,N<=a->ACalls prog 189 [.bool] [.dg 9 (List.getD e0 n8.toNat default),.pd a1_0 0 (.fn 134 [])]
 a (fun b c=>a<=c->Br b (∀ a,c<=a->Q n8 a) (zh Q N0 a0 e0 c0 a1_0 n7 (IntKind.i64.wrap (n8+1)) c))) (∀ a,N <=
 a->Q (-1) a)):zh Q N0 a0 e0 c0 a1_0 n7 n8 N:=
  hE (H:=x9) (by kernel_rfl) h
theorem rC (N:Nat) (x0:D) (a1:Addr) (Q:QT [.bool]) (h :
Bel N x0->∀ a,N<=a->ACalls prog 133 [.bool] [.dg 9 x0,.fn 134 []] a (fun b c=>a<=c->∀ a,c<=a->Q (!b) a)):ACalls prog 189 [.bool] [.dg 9 x0,.pd a1 0 (.fn 134 [])] N Q:=
 eE (H:=pU) (by kernel_rfl) (by kernel_rfl) h
end Go.Proofs.YtkdjhkfiolhkiaaGreat
set_option maxRecDepth 100000
namespace Go.Proofs.YtkdjhkfiolhkiaaGreat
open Go Go.Proofs Go.Proofs.Tryz
def zAr:Hint:=⟨[],[],[]⟩
theorem zA9 (N:Nat) (x0:D) (Q:QT [.bool]) (h :
Bel N x0->∃ n:Int,(x0.cell 0)=D.lit (.int .i64 n)/\∀ a,N<=a->ACalls prog 115 [.bool] [.int .i64 n,.int .i64 1,.int .i64 5] a (fun b c=>a
 <= c->Br b (∀ a,c<=a->Q true a) (∃ a:Int,(x0.cell 0)=D.lit (.int .i64 a)/\∀ b,c<=b->Q (a==8) b))):ACalls prog 134 [.bool] [PV.dg 9 x0] N Q:=
  eE (H:=zAr) (by kernel_rfl) (by kernel_rfl) h
end Go.Proofs.YtkdjhkfiolhkiaaGreat
set_option maxRecDepth 100000
namespace Go.Proofs.YtkdjhkfiolhkiaaGreat
open Go Go.Proofs Go.Proofs.Tryz
def vZ:Hint:=⟨[],[],[]⟩
def zAd:Hint:=⟨[],[],[(1,[en 0,en 2,en 3,eh 1,eh 4,en 5])]⟩
def rF:Hint:=⟨[hc 3 [1,5,10,11,12]],[],[(7,[en 0,en 1,en 2,en 3,en 4,en 5,eh 6,eh 7])]⟩
def rj:Hint:=⟨[],[],[(3,[en 0,en 1,en 2,en 3,en 4,en 5,en 6,en 7,ec 8 [22],en 9,eh 10,en 11])]⟩
def wL:Hint:=⟨[hc 4 [0,3,16,17,18]],[],[(6,[en 0,en 1,en 2,en 4,ec 3 [24],ec 5 [27]])]⟩
def zB1:Hint:=⟨[],[],[(1,hs 9 [ec 2 [9]]),(2,[en 0,en 1,en 2,en 4,eh 3,ec 5 [17],en 6,en 7])]⟩
def zAG:Hint:=⟨[hc 3 [0,3,4] [(3,148,2)]],[],[(5,[en 0,en 1,en 2,en 3,en 4,en 5,en 6,en 7,en 8,en 9,en 10,en 11,en 12,eh 13,eh 14])]⟩
def zEg:Hint:=⟨[],[],[]⟩
def ui:Hint:=⟨[hc 4 [1,2,5],hc 12 [1,2,7]],[],[(6,[en 0,en 1,en 2,en 3,en 4,en 5,en 6,en 7]),(9,hs 7 [ec 5 [37]]),(10,[en 0,en 1,en 2,en 3,en 4,en 5,en 6,en 7,en 8,en 9,eh 10,ec 11 [45],en 12,en 13]),(14,hs 7 [ec 6 [64]])]⟩
def zBf:Hint:=⟨[],[],[(1,hs 9 [ec 2 [9]]),(2,[en 0,en 1,en 2,en 3,eh 4,ec 5 [15],en 6,en 7])]⟩
def uj (Q:QT [.sl 3]) (N0:Nat) (a1:Option Addr) (e1:List D) (c1 m5 c5:Nat) (a10:Option Addr) (e10:List D) (c10:Nat) (n11 n12:Int) (r0:List D) (q0:Nat) (N:Nat):Prop:=AT prog 65 [.sl 3] Q N0 .ord (zC prog 65 3) ⟨an 1 (.sv a1 0 e1 c1::an 3 (.sb 0 3 0 m5 c5::an 4 (.sv a10 4 e10 c10::.int .i64 n11::.int .i64 n12::an 27 []))),[.arr 143 3 r0 q0],N,none⟩
def zq (Q:QT [.bool]) (N0:Nat) (a0:Option Addr) (e0:List D) (c0:Nat) (a16:Option Addr) (e16:List D) (c16:Nat) (n17 n18:Int) (y0:D) (N:Nat):Prop:=AT prog 66 [.bool] Q N0 .ord (zC prog 66 4) ⟨.sv a0 3 e0 c0::an 2 (.pb 0 0 0 0::an 12 (.sv a16 9 e16 c16::.int .i64 n17::.int .i64 n18::an 11 [])),[.vd y0 9],N,none⟩
def wK (Q:QT [.sl 2]) (N0:Nat) (a0:Option Addr) (e0:List D) (c0 m3 c3:Nat) (n4:Int) (r0:List D) (q0:Nat) (N:Nat):Prop:=AT prog 70 [.sl 2] Q N0 .ord (zC prog 70 3) ⟨.sv a0 4 e0 c0::an 2 (.sb 0 2 0 m3 c3::.int .i64 n4::an 22 []),[.arr 148 2 r0 q0],N,none⟩
def xf (Q:QT [.bool]) (N0:Nat) (a1:Option Addr) (e1:List D) (c1:Nat) (n5:Int) (y0:D) (N:Nat):Prop:=AT prog 69 [.bool] Q N0 .ord (zC prog 69 4) ⟨an 1 (.sv a1 2 e1 c1::.pb 0 0 0 0::an 2 (.int .i64 n5::an 61 [])),[.vd y0 9],N,none⟩
def yE (Q:QT [.bool]) (N0:Nat) (a1:Option Addr) (e1:List D) (c1:Nat) (n7:Int) (y0:D) (N:Nat):Prop:=AT prog 69 [.bool] Q N0 .ord (zC prog 69 12) ⟨an 1 (.sv a1 2 e1 c1::.pb 0 0 0 0::an 4 (.int .i64 n7::an 59 [])),[.vd y0 9],N,none⟩
def zV (Q:QT [.sl 3]) (N0:Nat) (a1:Option Addr) (e1:List D) (c1:Nat) (a5:Option Addr) (e5:List D) (c5:Nat) (a10:Option Addr) (e10:List D) (c10:Nat) (n11 n12:Int) (N:Nat):Prop:=AT prog 65 [.sl 3] Q N0 .ord (zC prog 65 3) ⟨an 1 (.sv a1 0 e1 c1::an 3 (.sv a5 3 e5 c5::an 4 (.sv a10 4 e10 c10::.int .i64 n11::.int .i64 n12::an 27 []))),[],N,none⟩
theorem v9 (N:Nat) (a0:Option Addr) (e0:List D) (c0:Nat) (Q:QT [.row 143 3]) (h :
Bel N (D.sl a0 3 e0 c0)->Br (Option.isNone a0) (∀ a,N<=a->Q [] 0 a) ((0=0/\0=0)/\zA [] e0 32/\∀ (c:Nat),(([]++e0).length=([]++e0).length
 /\ c=c)/\∀ a,N<=a->Q ([]++e0) c a)):ACalls prog 192 [.row 143 3] [PV.sv a0 3 e0 c0] N Q:=
  eE (H:=vZ) (by kernel_rfl) (by kernel_rfl) h
theorem zAm (N:Nat) (a0:Option Addr) (e0:List D) (c0:Nat) (x1:D) (Q:QT [.sl 3]) (h :
Bel N (D.sl a0 3 e0 c0)->Bel N x1->∀ b,N<=b->ACalls prog 192 [.row (OfNat.ofNat 143) 3] [.sv a0 3 e0 c0] b (fun c d e=>b<=e->Bel e (D.ag
 c)->(c.length=c.length/\d=d)/\zA c [x1] 32/\∀ (b:Nat),((c++[x1]).length=(c++[x1]).length/\b=b)/\((c++[x1]).length=(c
 ++ [x1]).length/\b=b)/\∀ a d,e<=d->Fresh N d a [D.ag (c++[x1])]->∀ e,d<=e->Q a (c++[x1]) b e)):ACalls prog 136 [.sl 3] [PV.sv a0 3 e0 c0,PV.dg 3 x1] N Q:=
  eE (H:=zAd) (by kernel_rfl) (by kernel_rfl) h
theorem zIN (N:Nat) (a0:Option Addr) (e0:List D) (c0:Nat) (a1:Option Addr) (e1:List D) (c1:Nat) (Q:QT [.sl 3]) (h :
Bel N (D.sl a0 4 e0 c0)->Bel N (D.sl a1 0 e1 c1)->uj Q N a1 e1 c1 0 0 a0 e0 c0 (e0.length:Int) 0 [] 0 N):ACalls prog 65 [.sl 3] [PV.sv a0 4 e0 c0,PV.sv a1 0 e1 c1] N Q:=
 eE (H:=rF) (by kernel_rfl) (by kernel_rfl) h
theorem rt (N:Nat) (a0:Option Addr) (e0:List D) (c0:Nat) (x1:D) (n2:Int) (Q:QT [.sl 3]) (h :
Bel N (D.sl a0 3 e0 c0)->Bel N x1->∃ n:Int,(x1.cell 0)=D.lit (.int .i64 n)/\Br (bne n 8) (∀ a,N<=a->Q a0 e0 c0 a) (Br (n2==0) (∀ a,N<=a
 -> Q a0 e0 c0 a) (∃ s,(x1.cell 1)=D.lit (.string s)/\∃ a d,∃ c:Nat,(x1.cell 8)=D.sl a 9 d c/\((0:Int)<=(0:Int)/\0<(d.length:Int))/\∀ a,
 N<=a->ACalls prog 66 [.bool] [.sv a0 3 e0 c0,.dg 9 (List.getD d 0 default)] a (fun b c=>a<=c->∀ a,c<=a->ACalls prog 136 [.sl 3] [.sv a0
 3 e0 c0,.dg 3 (D.ag [D.lit (.string s),D.lit (.int .i64 0),D.lit (.bool b)])] a (fun b c d e=>a<=e->Bel e (D.sl b 3 c d)->∀ a,
 e<=a->Q b c d a))))):ACalls prog 138 [.sl 3] [PV.sv a0 3 e0 c0,PV.dg 9 x1,PV.int .i64 n2] N Q:=
  eE (H:=rj) (by kernel_rfl) (by kernel_rfl) h
theorem tL (N:Nat) (a0:Option Addr) (e0:List D) (c0:Nat) (x1:D) (Q:QT [.bool]) (h :
Bel N (D.sl a0 3 e0 c0)->Bel N x1->∃ n:Int,(x1.cell 0)=D.lit (.int .i64 n)/\Br (n==1) (∃ s,(x1.cell 1)=D.lit (.string s)/\∀ a,N<=a->ACalls prog
 137 [.ag 3] [.sv a0 3 e0 c0,.str s] a (fun x c=>a<=c->Bel c x->∃ b:Bool,(x.cell 2)=D.lit (.bool b)/\∀ a,c<=a->Q b a)) (∃ a b,∃
 c:Nat,(x1.cell 8)=D.sl a 9 b c/\zq Q N a0 e0 c0 a b c (b.length:Int) 0 x1 N)):ACalls prog 66 [.bool] [PV.sv a0 3 e0 c0,PV.dg 9 x1] N Q:=
  eE (H:=wL) (by kernel_rfl) (by kernel_rfl) h
theorem zBp (N:Nat) (a0:Option Addr) (e0:List D) (c0:Nat) (x1:D) (Q:QT [.bool]) (h :
Bel N (D.sl a0 4 e0 c0)->Bel N x1->∀ d,N<=d->ACalls prog 64 [.ag 2,.bool] [.sv a0 4 e0 c0,.dg 9 x1] d (fun x b e=>d<=e->Bel e x->Br b (∀
 b,e<=b->ACalls prog 65 [.sl 3] [.sv a0 4 e0 c0,.sv Option.none 0 [] 0] b (fun a c d e=>b<=e->Bel e (D.sl a 3 c d)->∀ b,e<=b ->
 ACalls prog 66 [.bool] [.sv a 3 c d,.dg 9 x1] b (fun a c=>b<=c->∀ b,c<=b->Q a b))) (∀ a,e<=a->Q false a))):ACalls prog 9 [.bool] [PV.sv a0 4 e0 c0,PV.dg 9 x1] N Q:=
  eE (H:=zB1) (by kernel_rfl) (by kernel_rfl) h
theorem zG6 (N:Nat) (a0:Option Addr) (e0:List D) (c0:Nat) (Q:QT [.sl 2]) (h :
Bel N (D.sl a0 4 e0 c0)->wK Q N a0 e0 c0 0 0 0 [] 0 N):ACalls prog 70 [.sl 2] [PV.sv a0 4 e0 c0] N Q:=
 eE (H:=zAG) (by kernel_rfl) (by kernel_rfl) h
theorem zEe (N:Nat) (a0:Option Addr) (e0:List D) (c0:Nat) (s1:ByteArray) (b2:Bool) (Q:QT [.sl 2]) (h :
Bel N (D.sl a0 2 e0 c0)->(0=0/\0=0)/\zA [] e0 24/\∀ (c:Nat),(([]++e0).length=([]++e0).length/\c=c)/\zA ([]++e0) [D.ag [D.lit (.string
 s1),D.lit (.bool b2)]] 24/\∀ (b:Nat),(([]++e0++[D.ag [D.lit (.string s1),D.lit (.bool b2)]]).length=([]++e0++[D.ag [D.lit (.string s1),D.lit (.bool
 b2)]]).length/\b=b)/\(([]++e0++[D.ag [D.lit (.string s1),D.lit (.bool b2)]]).length=([]++e0++[D.ag [D.lit (.string s1),D.lit (.bool b2)]]).length
 /\ b=b)/\∀ a c,N<=c->Fresh N c a [D.ag ([]++e0++[D.ag [D.lit (.string s1),D.lit (.bool b2)]])]->∀ d,c<=d->Q a ([]++e0++[D.ag [D.lit
 (.string s1),D.lit (.bool b2)]]) b d):ACalls prog 141 [.sl 2] [PV.sv a0 2 e0 c0,PV.str s1,PV.bool b2] N Q:=
  eE (H:=zEg) (by kernel_rfl) (by kernel_rfl) h
theorem zEX (N:Nat) (x0:D) (a1:Option Addr) (e1:List D) (c1:Nat) (Q:QT [.bool]) (h :
Bel N x0->Bel N (D.sl a1 2 e1 c1)->∃ n:Int,(x0.cell 0)=D.lit (.int .i64 n)/\Br (n==1) (xf Q N a1 e1 c1 (IntKind.i64.wrap ((e1.length:Int)
 - 1)) x0 N) (Br (n==8) (∃ a d,∃ c:Nat,(x0.cell 8)=D.sl a 9 d c/\((0:Int)<=(0:Int)/\0<(d.length:Int))/\∀ a,N<=a->ACalls prog 69 [.bool]
 [.dg 9 (List.getD d 0 default),.sv a1 2 e1 c1] a (fun b c=>a<=c->Br b (∀ a,c<=a->Q true a) (∃ a d,∃ e:Nat,(x0.cell 8)=D.sl
 a 9 d e/\((0:Int)<=(1:Int)/\1<(d.length:Int))/\∃ s,(x0.cell 1)=D.lit (.string s)/\∀ a,c<=a->ACalls prog 141 [.sl 2] [.sv a1 2
 e1 c1,.str s,.bool b] a (fun b c e f=>a<=f->Bel f (D.sl b 2 c e)->∀ a,f<=a->ACalls prog 69 [.bool] [.dg 9 (List.getD d
 1 default),.sv b 2 c e] a (fun b c=>a<=c->∀ a,c<=a->Q b a))))) (yE Q N a1 e1 c1 0 x0 N))):ACalls prog 69 [.bool] [PV.dg 9 x0,PV.sv a1 2 e1 c1] N Q:=
  eE (H:=ui) (by kernel_rfl) (by kernel_rfl) h
theorem zBh (N:Nat) (a0:Option Addr) (e0:List D) (c0:Nat) (x1:D) (Q:QT [.bool]) (h :
Bel N (D.sl a0 4 e0 c0)->Bel N x1->∀ d,N<=d->ACalls prog 68 [.ag 2,.bool] [.sv a0 4 e0 c0,.dg 9 x1] d (fun x b e=>d<=e->Bel e x->Br b (∀
 b,e<=b->ACalls prog 70 [.sl 2] [.sv a0 4 e0 c0] b (fun a c d e=>b<=e->Bel e (D.sl a 2 c d)->∀ b,e<=b->ACalls prog 69 [.bool] [.dg
 9 x1,.sv a 2 c d] b (fun a c=>b<=c->∀ b,c<=b->Q a b))) (∀ a,e<=a->Q false a))):ACalls prog 11 [.bool] [PV.sv a0 4 e0 c0,PV.dg 9 x1] N Q:=
  eE (H:=zBf) (by kernel_rfl) (by kernel_rfl) h
theorem qI (Q:QT [.sl 3]) (N0:Nat) (a1:Option Addr) (e1:List D) (c1 m5 c5:Nat) (a10:Option Addr) (e10:List D) (c10:Nat) (n11 n12:Int) (r0:List D) (q0:Nat) (N:Nat) (h :
Br (decide (n12<n11)) ((0<=n12/\n12<(e10.length:Int))/\∃ s,D.cell (List.getD e10 n12.toNat default) 0=D.lit (.string s)/\∃ b:Bool,D.cell (List.getD
 e10 n12.toNat default) 3=D.lit (.bool b)/\∃ d:Bool,D.cell (List.getD e10 n12.toNat default) 3=D.lit (.bool d)/\Br (!d) (Br (decide ((e1.length:Int)
 > 0)) (((0:Int)<=(0:Int)/\0<(e1.length:Int))/\∃ n:Int,List.getD e1 0 default=D.lit (.int .i64 n)/\((0:Int)<=(1:Int)/\1<=(e1.length:Int)
 /\ (e1.length:Int)<=(e1.length:Int))/\(m5=r0.length/\c5=q0)/\∀ a,ApA a r0->∀ d,N<=d->vw d [a]->ACalls prog 136 [.sl 3] [.sv a 3 r0 c5,.dg
 3 (D.ag [D.lit (.string s),D.lit (.int .i64 n),D.lit (.bool b)])] d (fun b c e f=>d<=f->Off [a] (D.sl b 3 c e)/\(Bel f (D.sl b 3 c e) ->
 zV Q N0 (if (c1:Int)=1 then a1 else Option.map (fun x=>Addr.add x 1) a1) (List.drop 1 (List.take ((e1.length:Int)).toNat e1)) (c1 - 1:Nat)
 b c e a10 e10 c10 n11 (IntKind.i64.wrap (n12+1)) f))) ((m5=r0.length/\c5=q0)/\∀ a,ApA a r0->∀ c,N<=c->vw c [a]->ACalls prog 136
 [.sl 3] [.sv a 3 r0 c5,.dg 3 (D.ag [D.lit (.string s),D.lit (.int .i64 0),D.lit (.bool b)])] c (fun b d e f=>c<=f->Off [a] (D.sl b 3
 d e)/\(Bel f (D.sl b 3 d e)->zV Q N0 a1 e1 c1 b d e a10 e10 c10 n11 (IntKind.i64.wrap (n12+1)) f)))) ((m5=r0.length /\
 c5=q0)/\∀ a,ApA a r0->∀ c,N<=c->vw c [a]->ACalls prog 136 [.sl 3] [.sv a 3 r0 c5,.dg 3 (D.ag [D.lit (.string s),D.lit (.int .i64 0),D.lit
 (.bool b)])] c (fun b d e f=>c<=f->Off [a] (D.sl b 3 d e)/\(Bel f (D.sl b 3 d e)->zV Q N0 a1 e1 c1 b d
 e a10 e10 c10 n11 (IntKind.i64.wrap (n12+1)) f)))) ((m5=r0.length/\c5=q0)/\(m5=r0.length/\c5=q0)/\(m5=r0.length/\c5=q0)/\∀ a b,N<=b
 -> Fresh N0 b a [D.ag r0]->∀ c,b<=c->Q a r0 q0 c)):uj Q N0 a1 e1 c1 m5 c5 a10 e10 c10 n11 n12 r0 q0 N:=
  hE (H:=rF) (by kernel_rfl) h
theorem xX (Q:QT [.bool]) (N0:Nat) (a0:Option Addr) (e0:List D) (c0:Nat) (a16:Option Addr) (e16:List D) (c16:Nat) (n17 n18:Int) (y0:D) (N:Nat) (h :
Br (decide (n18<n17)) ((0<=n18/\n18<(e16.length:Int))/\∀ d,N<=d->ACalls prog 138 [.sl 3] [.sv a0 3 e0 c0,.dg 9 y0,.int .i64 n18] d (fun a c
 e f=>d<=f->Bel f (D.sl a 3 c e)->∀ d,f<=d->ACalls prog 66 [.bool] [.sv a 3 c e,.dg 9 (List.getD e16 n18.toNat default)] d (fun b a=>
 d<=a->Br b (∀ b,a<=b->Q true b) (zq Q N0 a0 e0 c0 a16 e16 c16 n17 (IntKind.i64.wrap (n18+1)) y0 a)))) (∀ a,N<=a
 -> Q false a)):zq Q N0 a0 e0 c0 a16 e16 c16 n17 n18 y0 N:=
  hE (H:=wL) (by kernel_rfl) h
theorem sO (Q:QT [.sl 2]) (N0:Nat) (a0:Option Addr) (e0:List D) (c0 m3 c3:Nat) (n4:Int) (r0:List D) (q0:Nat) (N:Nat) (h :
Br (decide (n4<(e0.length:Int))) ((0<=n4/\n4<(e0.length:Int))/\∃ s,(if 0=0 then D.cell (List.getD e0 n4.toNat default) 0 else D.sub (List.getD e0 n4.toNat
 default) 0 0)=D.lit (.string s)/\(0<=n4/\n4<(e0.length:Int))/\∃ b:Bool,(if 0=0 then D.cell (List.getD e0 n4.toNat default) 3 else D.sub (List.getD
 e0 n4.toNat default) 3 0)=D.lit (.bool b)/\(m3=r0.length/\c3=q0)/\zA r0 [D.ag [D.lit (.string s),D.lit (.bool b)]] 24/\∀ (c:Nat),wK
 Q N0 a0 e0 c0 (r0++[D.ag [D.lit (.string s),D.lit (.bool b)]]).length c (IntKind.i64.wrap (n4+1)) (r0++[D.ag [D.lit (.string s),D.lit (.bool b)]]) c N) ((m3
 = r0.length/\c3=q0)/\(m3=r0.length/\c3=q0)/\(m3=r0.length/\c3=q0)/\∀ a b,N<=b->Fresh N0 b a [D.ag r0]->∀ c,b<=c->Q a r0 q0 c) 
 ):wK Q N0 a0 e0 c0 m3 c3 n4 r0 q0 N:=
  hE (H:=zAG) (by kernel_rfl) h
theorem t8 (Q:QT [.bool]) (N0:Nat) (a1:Option Addr) (e1:List D) (c1:Nat) (n5:Int) (y0:D) (N:Nat) (h :
Br (decide (n5≥0)) ((0<=n5/\n5<(e1.length:Int))/\∃ s,(if 0=0 then D.cell (List.getD e1 n5.toNat default) 0 else D.sub (List.getD e1 n5.toNat default)
 0 0)=D.lit (.string s)/\∃ a,(y0.cell 1)=D.lit (.string a)/\Br (ByteArray.toList s==ByteArray.toList a) ((0<=n5/\n5<(e1.length:Int))/\∃ b :
 Bool,(if 0=0 then D.cell (List.getD e1 n5.toNat default) 1 else D.sub (List.getD e1 n5.toNat default) 1 0)=D.lit (.bool b)/\∀ a,N<=a->Q b a) (xf
 Q N0 a1 e1 c1 (IntKind.i64.wrap (n5 - 1)) y0 N)) (yE Q N0 a1 e1 c1 0 y0 N)):xf Q N0 a1 e1 c1 n5 y0 N:=
  hE (H:=ui) (by kernel_rfl) h
theorem u6 (Q:QT [.bool]) (N0:Nat) (a1:Option Addr) (e1:List D) (c1:Nat) (n7:Int) (y0:D) (N:Nat) (h :
∃ a d,∃ c:Nat,(y0.cell 8)=D.sl a 9 d c/\Br (decide (n7<(d.length:Int))) (∃ a c,∃ d:Nat,(y0.cell 8)=D.sl a 9 c d/\(0<=n7/\n7
 < (c.length:Int))/\∀ a,N<=a->ACalls prog 69 [.bool] [.dg 9 (List.getD c n7.toNat default),.sv a1 2 e1 c1] a (fun b c=>a<=c->Br b (∀
 a,c<=a->Q true a) (yE Q N0 a1 e1 c1 (IntKind.i64.wrap (n7+1)) y0 c))) (∀ a,N<=a->Q false a)):yE Q N0 a1 e1 c1 n7 y0 N:=
  hE (H:=ui) (by kernel_rfl) h
theorem u3 (Q:QT [.sl 3]) (N0:Nat) (a1:Option Addr) (e1:List D) (c1:Nat) (a5:Option Addr) (e5:List D) (c5:Nat) (a10:Option Addr) (e10:List D) (c10:Nat) (n11 n12:Int) (N:Nat) (h :
Br (decide (n12<n11)) ((0<=n12/\n12<(e10.length:Int))/\∃ s,D.cell (List.getD e10 n12.toNat default) 0=D.lit (.string s)/\∃ b:Bool,D.cell (List.getD
 e10 n12.toNat default) 3=D.lit (.bool b)/\∃ d:Bool,D.cell (List.getD e10 n12.toNat default) 3=D.lit (.bool d)/\Br (!d) (Br (decide ((e1.length:Int)
 > 0)) (((0:Int)<=(0:Int)/\0<(e1.length:Int))/\∃ n:Int,List.getD e1 0 default=D.lit (.int .i64 n)/\((0:Int)<=(1:Int)/\1<=(e1.length:Int)
 /\ (e1.length:Int)<=(e1.length:Int))/\∀ d,N<=d->ACalls prog 136 [.sl 3] [.sv a5 3 e5 c5,.dg 3 (D.ag [D.lit (.string s),D.lit (.int .i64 n),D.lit (.bool
 b)])] d (fun a b c e=>d<=e->Bel e (D.sl a 3 b c)->zV Q N0 (if (c1:Int)=1 then a1 else Option.map (fun x=>Addr.add x 1) a1)
 (List.drop 1 (List.take ((e1.length:Int)).toNat e1)) (c1 - 1:Nat) a b c a10 e10 c10 n11 (IntKind.i64.wrap (n12+1)) e)) (∀ a,N<=a->ACalls prog 136
 [.sl 3] [.sv a5 3 e5 c5,.dg 3 (D.ag [D.lit (.string s),D.lit (.int .i64 0),D.lit (.bool b)])] a (fun b c d e=>a<=e->Bel e (D.sl b 3 c
 d)->zV Q N0 a1 e1 c1 b c d a10 e10 c10 n11 (IntKind.i64.wrap (n12+1)) e))) (∀ a,N<=a->ACalls prog 136 [.sl 3] [.sv a5 3 e5 c5,
 .dg 3 (D.ag [D.lit (.string s),D.lit (.int .i64 0),D.lit (.bool b)])] a (fun b c d e=>a<=e->Bel e (D.sl b 3 c d)->zV
 Q N0 a1 e1 c1 b c d a10 e10 c10 n11 (IntKind.i64.wrap (n12+1)) e))) (∀ a,N<=a->Q a5 e5 c5 a)):zV Q N0 a1 e1 c1 a5 e5 c5 a10 e10 c10 n11 n12 N:=
  hE (H:=rF) (by kernel_rfl) h
end Go.Proofs.YtkdjhkfiolhkiaaGreat
set_option maxRecDepth 100000
namespace Go.Proofs.YtkdjhkfiolhkiaaGreat
open Go Go.Proofs Go.Proofs.Tryz
def su:Hint:=⟨[hc 3 [1,2,5,6] [(5,4,0)]],[],[(1,hs 5 [ec 2 [8]]),(7,[en 0,en 1,en 2,en 3,en 4,en 5,en 6,en 7,ec 8 [33],eh 9,en 10]),(8,hs 10 [ec 7 [42]])]⟩
def zEF:Hint:=⟨[],[],[(1,hs 9 [ec 2 [9]]),(4,[en 0,en 1,eh 2,ec 3 [16],en 4])]⟩
def zHi:Hint:=⟨[],[],[]⟩
def vk:Hint:=⟨[hc 4 [5,6,7]],[],[(2,hs 4 [ec 2 [9]])]⟩
def tE:Hint:=⟨[hc 3 [0,3,5,13,14,15] [(5,4,0)]],[],[(1,hs 5 [ec 2 [9]]),(5,[en 0,en 1,en 2,en 3,en 5,ec 4 [22],ec 6 [25],eh 7,eh 8])]⟩
def zEb:Hint:=⟨[],[],[(1,hs 9 [ec 2 [9]]),(4,[en 0,en 2,eh 1,ec 3 [17],en 4])]⟩
def zK1:Hint:=⟨[],[],[]⟩
def vY:Hint:=⟨[hc 3 [5,10,11,12]],[],[(2,hs 5 [ec 2 [9]])]⟩
def yF (Q:QT [.sl 0]) (N0:Nat) (a1:Option Addr) (e1:List D) (c1 m5 c5:Nat) (n6:Int) (y0:D) (r1:List D) (q1:Nat) (N:Nat):Prop:=AT prog 71 [.sl 0] Q N0 .ord (zC prog 71 3) ⟨an 1 (.sv a1 2 e1 c1::.pb 0 0 0 0::an 2 (.sb 1 0 0 m5 c5::.int .i64 n6::an 40 [])),[.vd y0 9,.arr 4 0 r1 q1],N,none⟩
def yO (Q:QT [.int .i64]) (N0:Nat) (n5:Int) (a6:Option Addr) (e6:List D) (c6:Nat) (n7:Int) (N:Nat):Prop:=AT prog 15 [.int .i64] Q N0 .ord (zC prog 15 4) ⟨an 5 (.int .i64 n5::.sv a6 0 e6 c6::.int .i64 n7::an 17 []),[],N,none⟩
def yp (Q:QT [.sl 0]) (N0:Nat) (a0:Option Addr) (e0:List D) (c0 m5 c5:Nat) (a13:Option Addr) (e13:List D) (c13:Nat) (n14 n15:Int) (y0:D) (r1:List D) (q1:Nat) (N:Nat):Prop:=AT prog 67 [.sl 0] Q N0 .ord (zC prog 67 3) ⟨.sv a0 3 e0 c0::an 2 (.pb 0 0 0 0::an 1 (.sb 1 0 0 m5 c5::an 7 (.sv a13 9 e13 c13::.int .i64 n14::.int .i64 n15::an 14 []))),[.vd y0 9,.arr 4 0 r1 q1],N,none⟩
def yL (Q:QT [.int .i64]) (N0:Nat) (n5:Int) (a10:Option Addr) (e10:List D) (c10:Nat) (n11 n12:Int) (N:Nat):Prop:=AT prog 14 [.int .i64] Q N0 .ord (zC prog 14 3) ⟨an 5 (.int .i64 n5::an 4 (.sv a10 0 e10 c10::.int .i64 n11::.int .i64 n12::an 9 [])),[],N,none⟩
theorem zDO (N:Nat) (x0:D) (a1:Option Addr) (e1:List D) (c1:Nat) (Q:QT [.sl 0]) (h :
Bel N x0->Bel N (D.sl a1 2 e1 c1)->∀ a,N<=a->ACalls prog 69 [.bool] [.dg 9 x0,.sv a1 2 e1 c1] a (fun b c=>a<=c->yF Q N a1 e1
 c1 1 1 0 x0 [D.lit (.bool b)] 1 c)):ACalls prog 71 [.sl 0] [PV.dg 9 x0,PV.sv a1 2 e1 c1] N Q:=
  eE (H:=su) (by kernel_rfl) (by kernel_rfl) h
theorem zD1 (N:Nat) (a0:Option Addr) (e0:List D) (c0:Nat) (x1:D) (Q:QT [.sl 0]) (h :
Bel N (D.sl a0 4 e0 c0)->Bel N x1->∀ d,N<=d->ACalls prog 68 [.ag 2,.bool] [.sv a0 4 e0 c0,.dg 9 x1] d (fun x b e=>d<=e->Bel e x->Br (!b)
 ((0=0/\0=0)/\(0=0/\0=0)/\∀ a b,e<=b->Fresh N b a [D.ag []]->∀ c,b<=c->Q a [] 0 c) (∀ a,e<=a->ACalls prog 70 [.sl 2] [.sv
 a0 4 e0 c0] a (fun b c d e=>a<=e->Bel e (D.sl b 2 c d)->∀ a,e<=a->ACalls prog 71 [.sl 0] [.dg 9 x1,.sv b 2 c d] a (fun b c
 d e=>a<=e->Bel e (D.sl b 0 c d)->∀ a,e<=a->Q b c d a))))):ACalls prog 13 [.sl 0] [PV.sv a0 4 e0 c0,PV.dg 9 x1] N Q:=
  eE (H:=zEF) (by kernel_rfl) (by kernel_rfl) h
theorem zIJ (N:Nat) (b0:Bool) (Q:QT [.int .i64]) (h :
Br b0 (∀ a,N<=a->Q 1 a) (∀ a,N<=a->Q 0 a)):ACalls prog 73 [.int .i64] [PV.bool b0] N Q:=
 eE (H:=zHi) (by kernel_rfl) (by kernel_rfl) h
theorem qX (N:Nat) (a0:Option Addr) (e0:List D) (c0:Nat) (x1:D) (Q:QT [.int .i64]) (h :
Bel N (D.sl a0 4 e0 c0)->Bel N x1->∀ b,N<=b->ACalls prog 13 [.sl 0] [.sv a0 4 e0 c0,.dg 9 x1] b (fun a c d e=>b<=e->Bel e (D.sl a 0 c d)
 -> yO Q N 0 a c d 0 e)):ACalls prog 15 [.int .i64] [PV.sv a0 4 e0 c0,PV.dg 9 x1] N Q:=
  eE (H:=vk) (by kernel_rfl) (by kernel_rfl) h
theorem zBD (N:Nat) (a0:Option Addr) (e0:List D) (c0:Nat) (x1:D) (Q:QT [.sl 0]) (h :
Bel N (D.sl a0 3 e0 c0)->Bel N x1->∀ d,N<=d->ACalls prog 66 [.bool] [.sv a0 3 e0 c0,.dg 9 x1] d (fun b e=>d<=e->∃ a d,∃ c:Nat,(x1.cell
 8)=D.sl a 9 d c/\yp Q N a0 e0 c0 1 1 a d c (d.length:Int) 0 x1 [D.lit (.bool b)] 1 e)):ACalls prog 67 [.sl 0] [PV.sv a0 3 e0 c0,PV.dg 9 x1] N Q:=
  eE (H:=tE) (by kernel_rfl) (by kernel_rfl) h
theorem zEH (N:Nat) (a0:Option Addr) (e0:List D) (c0:Nat) (x1:D) (Q:QT [.sl 0]) (h :
Bel N (D.sl a0 4 e0 c0)->Bel N x1->∀ d,N<=d->ACalls prog 64 [.ag 2,.bool] [.sv a0 4 e0 c0,.dg 9 x1] d (fun x b e=>d<=e->Bel e x->Br (!b)
 (∀ a,e<=a->Q Option.none [] 0 a) (∀ b,e<=b->ACalls prog 65 [.sl 3] [.sv a0 4 e0 c0,.sv Option.none 0 [] 0] b (fun a c d e=>b<=e
 -> Bel e (D.sl a 3 c d)->∀ b,e<=b->ACalls prog 67 [.sl 0] [.sv a 3 c d,.dg 9 x1] b (fun a c d e=>b<=e->Bel e (D.sl a 0 c
 d)->∀ b,e<=b->Q a c d b))))):ACalls prog 10 [.sl 0] [PV.sv a0 4 e0 c0,PV.dg 9 x1] N Q:=
  eE (H:=zEb) (by kernel_rfl) (by kernel_rfl) h
theorem zKv (N:Nat) (b0:Bool) (Q:QT [.int .i64]) (h :
Br b0 (∀ a,N<=a->Q 1 a) (∀ a,N<=a->Q 0 a)):ACalls prog 72 [.int .i64] [PV.bool b0] N Q:=
 eE (H:=zK1) (by kernel_rfl) (by kernel_rfl) h
theorem qm (N:Nat) (a0:Option Addr) (e0:List D) (c0:Nat) (x1:D) (Q:QT [.int .i64]) (h :
Bel N (D.sl a0 4 e0 c0)->Bel N x1->∀ b,N<=b->ACalls prog 10 [.sl 0] [.sv a0 4 e0 c0,.dg 9 x1] b (fun a c d e=>b<=e->Bel e (D.sl a 0 c d)
 -> yL Q N 0 a c d (c.length:Int) 0 e)):ACalls prog 14 [.int .i64] [PV.sv a0 4 e0 c0,PV.dg 9 x1] N Q:=
  eE (H:=vY) (by kernel_rfl) (by kernel_rfl) h
theorem u4 (Q:QT [.sl 0]) (N0:Nat) (a1:Option Addr) (e1:List D) (c1 m5 c5:Nat) (n6:Int) (y0:D) (r1:List D) (q1:Nat) (N:Nat) (h :
∃ a d,∃ c:Nat,(y0.cell 8)=D.sl a 9 d c/\Br (decide (n6<(d.length:Int))) (∃ n:Int,(y0.cell 0)=D.lit (.int .i64 n)/\Br (n==8) (Br (n6==1) (∃
 s,(y0.cell 1)=D.lit (.string s)/\∃ a c,∃ d:Nat,(y0.cell 8)=D.sl a 9 c d/\((0:Int)<=(0:Int)/\0<(c.length:Int))/\∀ a,N <=
 a->ACalls prog 69 [.bool] [.dg 9 (List.getD c 0 default),.sv a1 2 e1 c1] a (fun b c=>a<=c->∀ a,c<=a->ACalls prog 141 [.sl 2] [.sv a1
 2 e1 c1,.str s,.bool b] a (fun b c d e=>a<=e->Bel e (D.sl b 2 c d)->∃ a f,∃ g:Nat,(y0.cell 8)=D.sl a 9 f g/\(0
 <= n6/\n6<(f.length:Int))/\∀ a,e<=a->ACalls prog 71 [.sl 0] [.dg 9 (List.getD f n6.toNat default),.sv b 2 c d] a (fun b c d
 e=>a<=e->Bel e (D.sl b 0 c d)->(m5=r1.length/\c5=q1)/\zA r1 c 1/\∀ (a:Nat),yF Q N0 a1 e1 c1 (r1++c).length
 a (IntKind.i64.wrap (n6+1)) y0 (r1++c) a e)))) (∃ a b,∃ c:Nat,(y0.cell 8)=D.sl a 9 b c/\(0<=n6/\n6<(b.length:Int))/\∀
 a,N<=a->ACalls prog 71 [.sl 0] [.dg 9 (List.getD b n6.toNat default),.sv a1 2 e1 c1] a (fun b c d e=>a<=e->Bel e (D.sl b 0 c
 d)->(m5=r1.length/\c5=q1)/\zA r1 c 1/\∀ (a:Nat),yF Q N0 a1 e1 c1 (r1++c).length a (IntKind.i64.wrap (n6+1)) y0 (r1
 ++ c) a e))) (∃ a b,∃ c:Nat,(y0.cell 8)=D.sl a 9 b c/\(0<=n6/\n6<(b.length:Int))/\∀ a,N<=a->ACalls prog 71 [.sl 0] [.dg
 9 (List.getD b n6.toNat default),.sv a1 2 e1 c1] a (fun b c d e=>a<=e->Bel e (D.sl b 0 c d)->(m5=r1.length/\c5=q1)/\zA
 r1 c 1/\∀ (a:Nat),yF Q N0 a1 e1 c1 (r1++c).length a (IntKind.i64.wrap (n6+1)) y0 (r1++c) a e))) ((m5=r1.length /\
 c5=q1)/\(m5=r1.length/\c5=q1)/\(m5=r1.length/\c5=q1)/\∀ a b,N<=b->Fresh N0 b a [D.ag r1]->∀ c,b<=c->Q a r1 q1 c) 
 ):yF Q N0 a1 e1 c1 m5 c5 n6 y0 r1 q1 N:=
  hE (H:=su) (by kernel_rfl) h
theorem w4 (Q:QT [.int .i64]) (N0:Nat) (n5:Int) (a6:Option Addr) (e6:List D) (c6:Nat) (n7:Int) (N:Nat) (h :
Br (decide (n7<(e6.length:Int))) ((0<=n7/\n7<(e6.length:Int))/\∃ b:Bool,List.getD e6 n7.toNat default=D.lit (.bool b)/\∀ a,N<=a->ACalls prog
 73 [.int .i64] [.bool b] a (fun n b=>a<=b->yO Q N0 (IntKind.i64.wrap (n5+n)) a6 e6 c6 (IntKind.i64.wrap (n7+1)) b)) (∀ a,
 N<=a->Q n5 a)):yO Q N0 n5 a6 e6 c6 n7 N:=
  hE (H:=vk) (by kernel_rfl) h
theorem uC (Q:QT [.sl 0]) (N0:Nat) (a0:Option Addr) (e0:List D) (c0 m5 c5:Nat) (a13:Option Addr) (e13:List D) (c13:Nat) (n14 n15:Int) (y0:D) (r1:List D) (q1:Nat) (N:Nat) (h :
Br (decide (n15<n14)) ((0<=n15/\n15<(e13.length:Int))/\∀ b,N<=b->ACalls prog 138 [.sl 3] [.sv a0 3 e0 c0,.dg 9 y0,.int .i64 n15] b (fun a c
 d e=>b<=e->Bel e (D.sl a 3 c d)->∀ b,e<=b->ACalls prog 67 [.sl 0] [.sv a 3 c d,.dg 9 (List.getD e13 n15.toNat default)] b (fun a c
 d e=>b<=e->Bel e (D.sl a 0 c d)->(m5=r1.length/\c5=q1)/\zA r1 c 1/\∀ (a:Nat),yp Q N0 a0 e0 c0 (r1++c).length
 a a13 e13 c13 n14 (IntKind.i64.wrap (n15+1)) y0 (r1++c) a e))) ((m5=r1.length/\c5=q1)/\(m5=r1.length/\c5=q1)/\(m5=r1.length/\c5=q1)
 /\ ∀ a b,N<=b->Fresh N0 b a [D.ag r1]->∀ c,b<=c->Q a r1 q1 c)):yp Q N0 a0 e0 c0 m5 c5 a13 e13 c13 n14 n15 y0 r1 q1 N:=
  hE (H:=tE) (by kernel_rfl) h
theorem w6 (Q:QT [.int .i64]) (N0:Nat) (n5:Int) (a10:Option Addr) (e10:List D) (c10:Nat) (n11 n12:Int) (N:Nat) (h :
Br (decide (n12<n11)) ((0<=n12/\n12<(e10.length:Int))/\∃ b:Bool,List.getD e10 n12.toNat default=D.lit (.bool b)/\∀ a,N<=a->ACalls prog 72 [.int
 .i64] [.bool b] a (fun n b=>a<=b->yL Q N0 (IntKind.i64.wrap (n5+n)) a10 e10 c10 n11 (IntKind.i64.wrap (n12+1)) b)) (∀ a,N
 <= a->Q n5 a)):yL Q N0 n5 a10 e10 c10 n11 n12 N:=
  hE (H:=vY) (by kernel_rfl) h
end Go.Proofs.YtkdjhkfiolhkiaaGreat
set_option maxRecDepth 100000
namespace Go.Proofs.YtkdjhkfiolhkiaaGreat
open Go Go.Proofs Go.Proofs.Tryz
def zEM:Hint:=⟨[],[],[]⟩
def zG7:Hint:=⟨[],[],[]⟩
def zDp:Hint:=⟨[],[],[]⟩
def qD:Hint:=⟨[hc 4 [1,2,5]],[],[(6,[en 0,en 1,en 2,en 3,en 4,en 5,en 6,en 7]),(9,hs 7 [ec 5 [40]]),(12,hs 7 [ec 5 [50]]),(16,[en 0,en 1,en 2,en 3,en 4,en 5,en 6,en 11,ec 7 [69],en 8,en 9,en 10,ec 12 [74],en 13]),(19,[en 0,en 1,en 2,en 3,en 4,en 5,en 6,en 7,en 8,en 9,en 10,en 11,ec 12 [92],en 13,en 14,eh 15,ec 16 [85],en 17])]⟩
def s9:Hint:=⟨[hc 6 [0,2,4,10,11] [(10,97,2)]],[],[(1,hs 9 [ec 2 [14]]),(8,[en 0,en 1,en 2,en 3,en 4,en 5,en 6,en 7,en 8,ec 9 [38],en 10]),(10,[en 0,en 1,en 2,en 3,en 4,en 5,en 6,en 7,en 8,en 9,en 10,en 11,eh 12,eh 13]),(11,hs 5 [ec 2 [58]])]⟩
def xe (Q:QT [.int .i64]) (N0:Nat) (a1:Option Addr) (e1:List D) (c1:Nat) (n5:Int) (y0:D) (N:Nat):Prop:=AT prog 75 [.int .i64] Q N0 .ord (zC prog 75 4) ⟨an 1 (.sv a1 2 e1 c1::.pb 0 0 0 0::an 2 (.int .i64 n5::an 95 [])),[.vd y0 9],N,none⟩
def xK (Q:QT [.int .i64,.bool]) (N0:Nat) (a0:Option Addr) (e0:List D) (c0:Nat) (a2:Option Addr) (e2:List D) (c2 m10 c10:Nat) (n11:Int) (y0:D) (r1:List D) (q1:Nat) (N:Nat):Prop:=AT prog 19 [.int .i64,.bool] Q N0 .ord (zC prog 19 6) ⟨.sv a0 4 e0 c0::an 1 (.sv a2 0 e2 c2::an 1 (.pb 0 0 0 0::an 5 (.sb 1 2 0 m10 c10::.int .i64 n11::an 49 []))),[.vd y0 9,.arr 97 2 r1 q1],N,none⟩
theorem zEa (N:Nat) (x0:D) (n1:Int) (Q:QT [.bool]) (h :
Bel N x0->∃ n:Int,(x0.cell 0)=D.lit (.int .i64 n)/\Br (n==2) (∀ a,N<=a->ACalls prog 117 [.bool] [.int .i64 n1,.int .i64 0,.int .i64 1] a (fun
 b c=>a<=c->∀ a,c<=a->Q b a)) (∀ a,N<=a->ACalls prog 117 [.bool] [.int .i64 n1,.int .i64 0,.int .i64 10006] a (fun b c=>a
 <= c->∀ a,c<=a->Q b a))):ACalls prog 74 [.bool] [PV.dg 2 x0,PV.int .i64 n1] N Q:=
  eE (H:=zEM) (by kernel_rfl) (by kernel_rfl) h
theorem zFv (N:Nat) (n0:Int) (Q:QT [.int .i64]) (h :
(10007:Int)≠(0:Int)/\Br (decide (Int.tmod n0 10007<0)) (∀ a,N<=a->Q (IntKind.i64.wrap (Int.tmod n0 10007+10007)) a) (∀ a,N<=a->Q (Int.tmod
 n0 10007) a)):ACalls prog 194 [.int .i64] [PV.int .i64 n0] N Q:=
  eE (H:=zG7) (by kernel_rfl) (by kernel_rfl) h
theorem zDz (N:Nat) (s0:ByteArray) (n1 n2:Int) (Q:QT [.int .i64,.bool]) (h :
∀ a,N<=a->ACalls prog 117 [.bool] [.int .i64 n1,.int .i64 0,.int .i64 10006] a (fun b c=>a<=c->Br (!b) (∀ a,c<=a->Q 0 false a) (∀
 a,c<=a->ACalls prog 117 [.bool] [.int .i64 n2,.int .i64 0,.int .i64 10006] a (fun b c=>a<=c->Br (!b) (∀ a,c<=a->Q 0 false a)
 (Br (ByteArray.toList s0==ByteArray.toList (bytes [43])) (∀ a,c<=a->ACalls prog 194 [.int .i64] [.int .i64 (IntKind.i64.wrap (n1+n2))] a (fun n b
 => a<=b->∀ a,b<=a->Q n true a)) (Br (ByteArray.toList s0==ByteArray.toList (bytes [45])) (∀ a,c<=a->ACalls prog 194 [.int .i64] [.int
 .i64 (IntKind.i64.wrap (n1 - n2))] a (fun b c=>a<=c->∀ a,c<=a->Q b true a)) (Br (ByteArray.toList s0==ByteArray.toList (bytes
 [42])) (∀ a,c<=a->ACalls prog 194 [.int .i64] [.int .i64 (IntKind.i64.wrap (n1*n2))] a (fun b c=>a<=c->∀ a,c<=a->Q b
 true a)) (Br (ByteArray.toList s0==ByteArray.toList (bytes [61])) (∀ a,c<=a->ACalls prog 73 [.int .i64] [.bool (n1==n2)] a (fun b c=>
 a<=c->∀ a,c<=a->Q b true a)) (Br (ByteArray.toList s0==ByteArray.toList (bytes [60])) (∀ a,c<=a->ACalls prog 73 [.int .i64]
 [.bool (decide (n1<n2))] a (fun b c=>a<=c->∀ a,c<=a->Q b true a)) (Br (ByteArray.toList s0==ByteArray.toList (bytes [38]))
 (Br (n1==1) (∀ a,c<=a->ACalls prog 73 [.int .i64] [.bool (n2==1)] a (fun b c=>a<=c->∀ a,c<=a->Q b true a)) (∀ a,
 c<=a->ACalls prog 73 [.int .i64] [.bool false] a (fun b c=>a<=c->∀ a,c<=a->Q b true a))) (Br (ByteArray.toList s0==ByteArray.toList
 (bytes [124])) (Br (n1==1) (∀ a,c<=a->ACalls prog 73 [.int .i64] [.bool true] a (fun b c=>a<=c->∀ a,c<=a->Q b true a))
 (∀ a,c<=a->ACalls prog 73 [.int .i64] [.bool (n2==1)] a (fun b c=>a<=c->∀ a,c<=a->Q b true a))) (Br (ByteArray.toList
 s0==ByteArray.toList (bytes [33])) (∀ a,c<=a->ACalls prog 73 [.int .i64] [.bool (n1==0)] a (fun b c=>a<=c->∀ a,c<=a ->
 Q b true a)) (∀ a,c<=a->Q 0 false a))))))))))))):ACalls prog 142 [.int .i64,.bool] [PV.str s0,PV.int .i64 n1,PV.int .i64 n2] N Q:=
  eE (H:=zDp) (by kernel_rfl) (by kernel_rfl) h
theorem zDq (N:Nat) (x0:D) (a1:Option Addr) (e1:List D) (c1:Nat) (Q:QT [.int .i64]) (h :
Bel N x0->Bel N (D.sl a1 2 e1 c1)->∃ n:Int,(x0.cell 0)=D.lit (.int .i64 n)/\Br (n==1) (xe Q N a1 e1 c1 (IntKind.i64.wrap ((e1.length:Int)
 - 1)) x0 N) (Br (n==4) (∃ a d,∃ c:Nat,(x0.cell 8)=D.sl a 9 d c/\((0:Int)<=(0:Int)/\0<(d.length:Int))/\∀ a,N<=a->ACalls prog 75 [.int
 .i64] [.dg 9 (List.getD d 0 default),.sv a1 2 e1 c1] a (fun c d=>a<=d->∃ a e,∃ f:Nat,(x0.cell 8)=D.sl a 9 e f/\Br (decide ((e.length
 : Int)>1)) (∃ a e,∃ f:Nat,(x0.cell 8)=D.sl a 9 e f/\((0:Int)<=(1:Int)/\1<(e.length:Int))/\∀ a,d<=a->ACalls prog 75
 [.int .i64] [.dg 9 (List.getD e 1 default),.sv a1 2 e1 c1] a (fun d e=>a<=e->∃ s,(x0.cell 1)=D.lit (.string s)/\∀ a,e<=a->ACalls prog
 142 [.int .i64,.bool] [.str s,.int .i64 c,.int .i64 d] a (fun b _ c=>a<=c->∀ a,c<=a->Q b a))) (∃ a,(x0.cell 1)=D.lit (.string
 a)/\∀ b,d<=b->ACalls prog 142 [.int .i64,.bool] [.str a,.int .i64 c,.int .i64 0] b (fun a _ c=>b<=c->∀ b,c<=b->Q a
 b)))) (Br (n==5) (∃ a b,∃ c:Nat,(x0.cell 8)=D.sl a 9 b c/\∃ a c,∃ d:Nat,(x0.cell 8)=D.sl a 9 c d/\((0:Int)<=(0
 : Int)/\0<(c.length:Int))/\∀ a,N<=a->ACalls prog 75 [.int .i64] [.dg 9 (List.getD c 0 default),.sv a1 2 e1 c1] a (fun c d=>a <=
 d->(0<=IntKind.i64.wrap (2 - c)/\IntKind.i64.wrap (2 - c)<(b.length:Int))/\∀ a,d<=a->ACalls prog 75 [.int .i64] [.dg 9 (List.getD b
 (IntKind.i64.wrap (2 - c)).toNat default),.sv a1 2 e1 c1] a (fun b c=>a<=c->∀ a,c<=a->Q b a))) (Br (n==8) ((0=0/\0=0)
 /\ zA [] e1 24/\∀ (a:Nat),∃ b c,∃ d:Nat,(x0.cell 8)=D.sl b 9 c d/\((0:Int)<=(1:Int)/\1<(c.length:Int))/\∃ b,(x0.cell
 1)=D.lit (.string b)/\∃ d e,∃ f:Nat,(x0.cell 8)=D.sl d 9 e f/\((0:Int)<=(0:Int)/\0<(e.length:Int))/\∀ d,N<=d->ACalls
 prog 75 [.int .i64] [.dg 9 (List.getD e 0 default),.sv a1 2 e1 c1] d (fun e f=>d<=f->(([]++e1).length=([]++e1).length/\a=a) /\
 zA ([]++e1) [D.ag [D.lit (.string b),D.lit (.int .i64 e)]] 24/\∀ (a:Nat),(([]++e1++[D.ag [D.lit (.string b),D.lit (.int .i64 e)]]).length
 = ([]++e1++[D.ag [D.lit (.string b),D.lit (.int .i64 e)]]).length/\a=a)/\∀ d,ApA d ([]++e1++[D.ag [D.lit (.string b),D.lit (.int .i64
 e)]])->Off [d] (List.getD c 1 default)->∀ g,f<=g->vw g [d]->ACalls prog 75 [.int .i64] [.dg 9 (List.getD c 1 default),.sv d 2
 ([]++e1++[D.ag [D.lit (.string b),D.lit (.int .i64 e)]]) a] g (fun a b=>g<=b->∀ c,b<=c->Q a c))) (∃ a:Int,(x0.cell
 3)=D.lit (.int .i64 a)/\∀ b,N<=b->Q a b))))):ACalls prog 75 [.int .i64] [PV.dg 9 x0,PV.sv a1 2 e1 c1] N Q:=
  eE (H:=qD) (by kernel_rfl) (by kernel_rfl) h
theorem zDX (N:Nat) (a0:Option Addr) (e0:List D) (c0:Nat) (x1:D) (a2:Option Addr) (e2:List D) (c2:Nat) (Q:QT [.int .i64,.bool]) (h :
Bel N (D.sl a0 4 e0 c0)->Bel N x1->Bel N (D.sl a2 0 e2 c2)->∀ a,N<=a->ACalls prog 68 [.ag 2,.bool] [.sv a0 4 e0 c0,.dg 9 x1] a (fun x b c=>a
 <= c->Bel c x->Br (!b) (∀ a,c<=a->Q 0 false a) (Br (bne (e2.length:Int) (e0.length:Int)) (∀ a,c<=a->Q 0 false a) (xK
 Q N a0 e0 c0 a2 e2 c2 0 0 0 x1 [] 0 c)))):ACalls prog 19 [.int .i64,.bool] [PV.sv a0 4 e0 c0,PV.dg 9 x1,PV.sv a2 0 e2 c2] N Q:=
  eE (H:=s9) (by kernel_rfl) (by kernel_rfl) h
theorem t4 (Q:QT [.int .i64]) (N0:Nat) (a1:Option Addr) (e1:List D) (c1:Nat) (n5:Int) (y0:D) (N:Nat) (h :
Br (decide (n5≥0)) ((0<=n5/\n5<(e1.length:Int))/\∃ s,(if 0=0 then D.cell (List.getD e1 n5.toNat default) 0 else D.sub (List.getD e1 n5.toNat default)
 0 0)=D.lit (.string s)/\∃ a,(y0.cell 1)=D.lit (.string a)/\Br (ByteArray.toList s==ByteArray.toList a) ((0<=n5/\n5<(e1.length:Int))/\∃ n :
 Int,(if 0=0 then D.cell (List.getD e1 n5.toNat default) 1 else D.sub (List.getD e1 n5.toNat default) 1 0)=D.lit (.int .i64 n)/\∀ a,N<=a->Q n a) (xe
 Q N0 a1 e1 c1 (IntKind.i64.wrap (n5 - 1)) y0 N)) (∃ a:Int,(y0.cell 3)=D.lit (.int .i64 a)/\∀ b,N<=b->Q a b)):xe Q N0 a1 e1 c1 n5 y0 N:=
  hE (H:=qD) (by kernel_rfl) h
theorem uv (Q:QT [.int .i64,.bool]) (N0:Nat) (a0:Option Addr) (e0:List D) (c0:Nat) (a2:Option Addr) (e2:List D) (c2 m10 c10:Nat) (n11:Int) (y0:D) (r1:List D) (q1:Nat) (N:Nat) (h :
Br (decide (n11<(e0.length:Int))) ((0<=n11/\n11<(e0.length:Int))/\(0<=n11/\n11<(e2.length:Int))/\∃ n:Int,List.getD e2 n11.toNat default=D.lit
 (.int .i64 n)/\∀ a,N<=a->ACalls prog 74 [.bool] [.dg 2 (if 2=0 then D.cell (List.getD e0 n11.toNat default) 1 else D.sub (List.getD e0 n11.toNat default)
 1 2),.int .i64 n] a (fun b d=>a<=d->Br (!b) (∀ a,d<=a->Q 0 false a) ((0<=n11/\n11<(e0.length:Int))/\∃ s,(if 0=0 then D.cell (List.getD
 e0 n11.toNat default) 0 else D.sub (List.getD e0 n11.toNat default) 0 0)=D.lit (.string s)/\(0<=n11/\n11<(e2.length:Int))/\∃ a:Int,List.getD e2 n11.toNat
 default=D.lit (.int .i64 a)/\(m10=r1.length/\c10=q1)/\zA r1 [D.ag [D.lit (.string s),D.lit (.int .i64 a)]] 24/\∀ (c:Nat),xK
 Q N0 a0 e0 c0 a2 e2 c2 (r1++[D.ag [D.lit (.string s),D.lit (.int .i64 a)]]).length c (IntKind.i64.wrap (n11+1)) y0 (r1++[D.ag [D.lit (.string s),D.lit
 (.int .i64 a)]]) c d))) ((m10=r1.length/\c10=q1)/\∀ a,ApA a r1->Off [a] y0->∀ b,N<=b->vw b [a]->ACalls prog 75 [.int .i64] [.dg 9 y0,.sv
 a 2 r1 c10] b (fun a c=>b<=c->∀ b,c<=b->Q a true b))):xK Q N0 a0 e0 c0 a2 e2 c2 m10 c10 n11 y0 r1 q1 N:=
  hE (H:=s9) (by kernel_rfl) h
end Go.Proofs.YtkdjhkfiolhkiaaGreat
set_option maxRecDepth 100000
namespace Go.Proofs.YtkdjhkfiolhkiaaGreat
open Go Go.Proofs Go.Proofs.Tryz
def pX:Hint:=⟨[hc 3 [1,2,3,4] [] [(3,8,30,9)]],[],[(1,[en 0,en 1,en 2,en 3,en 4,en 5,en 6,en 7,en 8,en 9,en 11,en 12,en 15,{ i:=10,hard:=true,cl:=[14],fs:=[3,14] },{ i:=13,hard:=true,cl:=[17],fs:=[3,17] },en 14,eh 16]),(5,[en 0,en 1,en 2,en 3,en 4,en 5,en 6,{ i:=7,hard:=true,cl:=[33],fs:=[3,33] },{ i:=8,hard:=true,cl:=[34],fs:=[3,34] },eh 9,en 10,eh 11])]⟩
def pH:Hint:=⟨[hc 3 [1,4,5,6] [] [(5,8,30,9)]],[],[(5,[en 0,en 1,en 2,en 3,en 4,en 5,{ i:=6,hard:=true,cl:=[20],fs:=[5,20] },{ i:=7,hard:=true,cl:=[21],fs:=[5,21] },eh 8,en 9,eh 10])]⟩
def zHU:Hint:=⟨[],[],[]⟩
def wA (Q:QT [.pk,.int .i64,.str,.str,.int .i64,.dc,.dc,.dc,.dc,.row 30 9]) (N0:Nat) (n4:Int) (y0:D) (n1_0:Int) (s1_1 s1_2:ByteArray) (n1_3 n1_4:Int) (a1_5:Option Addr) (e1_5:List D) (c1_5:Nat) (n1_6:Int) (a1_7:Option Addr) (e1_7:List D) (c1_7:Nat) (a1_8:Option Addr) (e1_8:List D) (c1_8:Nat) (n2_0:Int) (s2_1 s2_2:ByteArray) (n2_3:Int) (x2_4 x2_5 x2_6 x2_7:D) (m2_8 c2_8:Nat) (r3:List D) (q3:Nat) (N:Nat):Prop:=AT prog 124 [.pk,.int .i64,.str,.str,.int .i64,.dc,.dc,.dc,.dc,.row 30 9] Q N0 .ord (zC prog 124 3) ⟨an 1 (.pb 0 0 0 0::.pb 1 0 0 0::.pb 2 0 0 0::.int .i64 n4::an 34 []),[.vd y0 9,.var [.int .i64 n1_0,.str s1_1,.str s1_2,.int .i64 n1_3,.int .i64 n1_4,.sv a1_5 2 e1_5 c1_5,.int .i64 n1_6,.sv a1_7 2 e1_7 c1_7,.sv a1_8 9 e1_8 c1_8],.var [.int .i64 n2_0,.str s2_1,.str s2_2,.int .i64 n2_3,.dc x2_4,.dc x2_5,.dc x2_6,.dc x2_7,.sb 3 9 0 m2_8 c2_8],.arr 30 9 r3 q3],N,none⟩
def wN (Q:QT [.ag 9]) (N0:Nat) (a1:Option Addr) (e1:List D) (c1:Nat) (n6 n0_0:Int) (s0_1 s0_2:ByteArray) (n0_3 n0_4:Int) (a0_5:Option Addr) (e0_5:List D) (c0_5:Nat) (n0_6:Int) (a0_7:Option Addr) (e0_7:List D) (c0_7:Nat) (a0_8:Option Addr) (e0_8:List D) (c0_8:Nat) (n1_0:Int) (s1_1 s1_2:ByteArray) (n1_3 n1_4:Int) (a1_5:Option Addr) (e1_5:List D) (c1_5:Nat) (n1_6:Int) (a1_7:Option Addr) (e1_7:List D) (c1_7 m1_8 c1_8:Nat) (r2:List D) (q2:Nat) (N:Nat):Prop:=AT prog 123 [.ag 9] Q N0 .ord (zC prog 123 3) ⟨an 1 (.sv a1 9 e1 c1::an 2 (.pb 0 0 0 0::.pb 1 0 0 0::.int .i64 n6::an 19 [])),[.var [.int .i64 n0_0,.str s0_1,.str s0_2,.int .i64 n0_3,.int .i64 n0_4,.sv a0_5 2 e0_5 c0_5,.int .i64 n0_6,.sv a0_7 2 e0_7 c0_7,.sv a0_8 9 e0_8 c0_8],.var [.int .i64 n1_0,.str s1_1,.str s1_2,.int .i64 n1_3,.int .i64 n1_4,.sv a1_5 2 e1_5 c1_5,.int .i64 n1_6,.sv a1_7 2 e1_7 c1_7,.sb 2 9 0 m1_8 c1_8],.arr 30 9 r2 q2],N,none⟩
theorem zGm (N:Nat) (x0:D) (Q:QT [.pk,.int .i64,.str,.str,.int .i64,.dc,.dc,.dc,.dc,.row 30 9]) (h :
Bel N x0->∃ n:Int,(x0.cell 0)=D.lit (.int .i64 n)/\∃ s,(x0.cell 1)=D.lit (.string s)/\∃ a,(x0.cell 2)=D.lit (.string a)/\∃ b:Int,(x0.cell
 3)=D.lit (.int .i64 b)/\∀ c,N<=c->ACalls prog 110 [.ag 2] [.dg 2 (D.sub x0 4 2)] c (fun x d=>c<=d->Bel d x->∀ c,d<=c->ACalls
 prog 110 [.ag 2] [.dg 2 (D.sub x0 6 2)] c (fun d e=>c<=e->Bel e d->wA Q N 0 x0 0 (bytes []) (bytes []) 0 0 Option.none [] 0 0 Option.none
 [] 0 Option.none [] 0 n s a b (x.cell 0) (x.cell 1) (d.cell 0) (d.cell 1) 0 0 [] 0 e))):ACalls prog 124 [.pk,.int .i64,.str,.str,.int .i64,.dc,.dc,.dc,.dc,.row 30 9] [PV.dg 9 x0] N Q:=
  eE (H:=pX) (by kernel_rfl) (by kernel_rfl) h
theorem zGf (N:Nat) (n0:Int) (a1:Option Addr) (e1:List D) (c1:Nat) (Q:QT [.ag 9]) (h :
Bel N (D.sl a1 9 e1 c1)->wN Q N a1 e1 c1 0 0 (bytes []) (bytes []) 0 0 Option.none [] 0 0 Option.none [] 0 Option.none [] 0 n0 (bytes []) (bytes [])
 0 0 Option.none [] 0 0 Option.none [] 0 0 0 [] 0 N):ACalls prog 123 [.ag 9] [PV.int .i64 n0,PV.sv a1 9 e1 c1] N Q:=
  eE (H:=pH) (by kernel_rfl) (by kernel_rfl) h
theorem zIi (N:Nat) (s0:ByteArray) (x1 x2:D) (Q:QT [.ag 9]) (h :
Bel N x1->Bel N x2->(2=([x1,x2]).length/\2=2)/\∀ a,ApA a [x1,x2]->∀ b,N<=b->vw b [a]->ACalls prog 123 [.ag 9] [.int .i64 8,.sv a 9 [x1,
 x2] 2] b (fun x c=>b<=c->Off [a] x/\(Bel c x->∀ a,c<=a->Q (D.ag [(x.cell 0),D.lit (.string s0),(x.cell 2),(x.cell 3),(x.cell 4),(x.cell
 5),(x.cell 6),(x.cell 7),(x.cell 8)]) a))):ACalls prog 186 [.ag 9] [PV.str s0,PV.dg 9 x1,PV.dg 9 x2] N Q:=
  eE (H:=zHU) (by kernel_rfl) (by kernel_rfl) h
theorem sJ (Q:QT [.pk,.int .i64,.str,.str,.int .i64,.dc,.dc,.dc,.dc,.row 30 9]) (N0:Nat) (n4:Int) (y0:D) (n1_0:Int) (s1_1 s1_2:ByteArray) (n1_3 n1_4:Int) (a1_5:Option Addr) (e1_5:List D) (c1_5:Nat) (n1_6:Int) (a1_7:Option Addr) (e1_7:List D) (c1_7:Nat) (a1_8:Option Addr) (e1_8:List D) (c1_8:Nat) (n2_0:Int) (s2_1 s2_2:ByteArray) (n2_3:Int) (x2_4 x2_5 x2_6 x2_7:D) (m2_8 c2_8:Nat) (r3:List D) (q3:Nat) (N:Nat) (h :
∃ a b,∃ c:Nat,(y0.cell 8)=D.sl a 9 b c/\Br (decide (n4<(b.length:Int))) (∃ a b,∃ c:Nat,(y0.cell 8)=D.sl a 9 b c/\(0<=n4/\n4
 < (b.length:Int))/\∀ a,N<=a->ACalls prog 124 [Sh.pk,.int .i64,.str,.str,.int .i64,Sh.dc,Sh.dc,Sh.dc,Sh.dc,.row (OfNat.ofNat 30) 9] [.dg 9 (List.getD
 b n4.toNat default)] a (fun n s b c x d e f g h i=>a<=i->Bel i (D.ag g)->(g.length=g.length/\h=h)/\∀ a j,
 i<=j->Fresh N0 j a [D.ag g,x,d,e,f,x2_4,x2_5,x2_6,x2_7,D.ag r3]->(m2_8=r3.length/\c2_8=q3)/\zA r3 [D.ag [D.lit (.int .i64
 n),D.lit (.string s),D.lit (.string b),D.lit (.int .i64 c),x,d,e,f,D.sl a 9 g h]] 136/\∀ (i:Nat),wA Q N0 (IntKind.i64.wrap
 (n4+1)) y0 n1_0 s1_1 s1_2 n1_3 n1_4 a1_5 e1_5 c1_5 n1_6 a1_7 e1_7 c1_7 a1_8 e1_8 c1_8 n2_0 s2_1 s2_2 n2_3 x2_4 x2_5 x2_6 x2_7 (r3++[D.ag [D.lit (.int .i64 n),
 D.lit (.string s),D.lit (.string b),D.lit (.int .i64 c),x,d,e,f,D.sl a 9 g h]]).length i (r3++[D.ag [D.lit (.int .i64 n),D.lit (.string
 s),D.lit (.string b),D.lit (.int .i64 c),x,d,e,f,D.sl a 9 g h]]) i j)) ((m2_8=r3.length/\c2_8=q3)/\∀ a,N<=a->Q n2_0 s2_1
 s2_2 n2_3 x2_4 x2_5 x2_6 x2_7 r3 c2_8 a)):wA Q N0 n4 y0 n1_0 s1_1 s1_2 n1_3 n1_4 a1_5 e1_5 c1_5 n1_6 a1_7 e1_7 c1_7 a1_8 e1_8 c1_8 n2_0 s2_1 s2_2 n2_3 x2_4 x2_5 x2_6 x2_7 m2_8 c2_8 r3 q3 N:=
  hE (H:=pX) (by kernel_rfl) h
theorem sV (Q:QT [.ag 9]) (N0:Nat) (a1:Option Addr) (e1:List D) (c1:Nat) (n6 n0_0:Int) (s0_1 s0_2:ByteArray) (n0_3 n0_4:Int) (a0_5:Option Addr) (e0_5:List D) (c0_5:Nat) (n0_6:Int) (a0_7:Option Addr) (e0_7:List D) (c0_7:Nat) (a0_8:Option Addr) (e0_8:List D) (c0_8:Nat) (n1_0:Int) (s1_1 s1_2:ByteArray) (n1_3 n1_4:Int) (a1_5:Option Addr) (e1_5:List D) (c1_5:Nat) (n1_6:Int) (a1_7:Option Addr) (e1_7:List D) (c1_7 m1_8 c1_8:Nat) (r2:List D) (q2:Nat) (N:Nat) (h :
Br (decide (n6<(e1.length:Int))) ((0<=n6/\n6<(e1.length:Int))/\∀ b,N<=b->ACalls prog 124 [Sh.pk,.int .i64,.str,.str,.int .i64,Sh.dc,Sh.dc,
 Sh.dc,Sh.dc,.row (OfNat.ofNat 30) 9] [.dg 9 (List.getD e1 n6.toNat default)] b (fun n s c d x e f g h i j=>b<=j->Bel j (D.ag h)->(h.length
 = h.length/\i=i)/\∀ a b,j<=b->Fresh N0 b a [D.ag h,x,e,f,g,D.sl a1_5 2 e1_5 c1_5,D.sl a1_7 2 e1_7 c1_7,D.ag r2]->(m1_8=r2.length
 /\ c1_8=q2)/\zA r2 [D.ag [D.lit (.int .i64 n),D.lit (.string s),D.lit (.string c),D.lit (.int .i64 d),x,e,f,g,D.sl a 9 h i]] 136/\∀ (j
 : Nat),wN Q N0 a1 e1 c1 (IntKind.i64.wrap (n6+1)) n0_0 s0_1 s0_2 n0_3 n0_4 a0_5 e0_5 c0_5 n0_6 a0_7 e0_7 c0_7 a0_8 e0_8 c0_8 n1_0 s1_1 s1_2 n1_3
 n1_4 a1_5 e1_5 c1_5 n1_6 a1_7 e1_7 c1_7 (r2++[D.ag [D.lit (.int .i64 n),D.lit (.string s),D.lit (.string c),D.lit (.int .i64 d),x,e,f,g,D.sl
 a 9 h i]]).length j (r2++[D.ag [D.lit (.int .i64 n),D.lit (.string s),D.lit (.string c),D.lit (.int .i64 d),x,e,f,g,D.sl a 9 h i]]) j b))
 ((m1_8=r2.length/\c1_8=q2)/\(m1_8=r2.length/\c1_8=q2)/\(m1_8=r2.length/\c1_8=q2)/\∀ a b,N<=b->Fresh N0 b a [D.ag r2,D.sl a1_5 2 e1_5
 c1_5,D.sl a1_7 2 e1_7 c1_7]->∀ c,b<=c->Q (D.ag [D.lit (.int .i64 n1_0),D.lit (.string s1_1),D.lit (.string s1_2),D.lit (.int .i64 n1_3),D.lit (.int
 .i64 n1_4),D.sl a1_5 2 e1_5 c1_5,D.lit (.int .i64 n1_6),D.sl a1_7 2 e1_7 c1_7,D.sl a 9 r2 q2]) c)):wN Q N0 a1 e1 c1 n6 n0_0 s0_1 s0_2 n0_3 n0_4 a0_5 e0_5 c0_5 n0_6 a0_7 e0_7 c0_7 a0_8 e0_8 c0_8 n1_0 s1_1 s1_2 n1_3 n1_4 a1_5 e1_5 c1_5 n1_6 a1_7 e1_7 c1_7 m1_8 c1_8 r2 q2 N:=
  hE (H:=pH) (by kernel_rfl) h
end Go.Proofs.YtkdjhkfiolhkiaaGreat
set_option maxRecDepth 100000
namespace Go.Proofs.YtkdjhkfiolhkiaaGreat
open Go Go.Proofs Go.Proofs.Tryz
def zDv:Hint:=⟨[],[],[]⟩
def uO:Hint:=⟨[hc 3 [0,1,5,6] [(5,9,0)]],[],[]⟩
def wo:Hint:=⟨[hc 3 [0,1,5,6] [(5,9,0)],hc 8 [1,5,7] [(5,9,0)]],[],[]⟩
def vi:Hint:=⟨[hc 6 [1,3,4,5,6],hc 10 [1,3,4,5,6,7,8]],[],[(8,hs 7 [ec 5 [32]])]⟩
def z8 (Q:QT [.sl 0]) (N0:Nat) (a0:Option Addr) (e0:List D) (c0:Nat) (s1:ByteArray) (m5 c5:Nat) (n6:Int) (r0:List D) (q0:Nat) (N:Nat):Prop:=AT prog 77 [.sl 0] Q N0 .ord (zC prog 77 3) ⟨.sv a0 0 e0 c0::.str s1::an 3 (.sb 0 0 0 m5 c5::.int .i64 n6::an 21 []),[.arr 9 0 r0 q0],N,none⟩
def yH (Q:QT [.row 9 0]) (N0:Nat) (a0:Option Addr) (e0:List D) (c0:Nat) (a1:Option Addr) (e1:List D) (c1 m5 c5:Nat) (n6:Int) (r0:List D) (q0:Nat) (N:Nat):Prop:=AT prog 78 [.row 9 0] Q N0 .ord (zC prog 78 3) ⟨.sv a0 0 e0 c0::.sv a1 0 e1 c1::an 3 (.sb 0 0 0 m5 c5::.int .i64 n6::an 43 []),[.arr 9 0 r0 q0],N,none⟩
def zj (Q:QT [.sl 0]) (N0:Nat) (a3:Option Addr) (e3:List D) (c3:Nat) (n4:Int) (m5 c5:Nat) (n6:Int) (y0:D) (r1:List D) (q1:Nat) (N:Nat):Prop:=AT prog 21 [.sl 0] Q N0 .ord (zC prog 21 6) ⟨an 1 (.pb 0 0 0 0::an 1 (.sv a3 0 e3 c3::.int .i64 n4::.sb 1 0 0 m5 c5::.int .i64 n6::an 48 [])),[.vd y0 9,.arr 9 0 r1 q1],N,none⟩
def zl (Q:QT [.row 9 0]) (N0:Nat) (a1:Option Addr) (e1:List D) (c1 m5 c5:Nat) (n7:Int) (r0:List D) (q0:Nat) (N:Nat):Prop:=AT prog 78 [.row 9 0] Q N0 .ord (zC prog 78 8) ⟨an 1 (.sv a1 0 e1 c1::an 3 (.sb 0 0 0 m5 c5::an 1 (.int .i64 n7::an 42 []))),[.arr 9 0 r0 q0],N,none⟩
def yM (Q:QT [.sl 0]) (N0:Nat) (a3:Option Addr) (e3:List D) (c3:Nat) (n4:Int) (m5 c5:Nat) (n6:Int) (a7:Option Addr) (e7:List D) (c7:Nat) (n8:Int) (y0:D) (r1:List D) (q1:Nat) (N:Nat):Prop:=AT prog 21 [.sl 0] Q N0 .ord (zC prog 21 10) ⟨an 1 (.pb 0 0 0 0::an 1 (.sv a3 0 e3 c3::.int .i64 n4::.sb 1 0 0 m5 c5::.int .i64 n6::.sv a7 0 e7 c7::.int .i64 n8::an 46 [])),[.vd y0 9,.arr 9 0 r1 q1],N,none⟩
theorem zD2 (N:Nat) (x0:D) (Q:QT [.sl 0,.int .i64]) (h :
Bel N x0->∃ n:Int,(x0.cell 0)=D.lit (.int .i64 n)/\Br (n==6) (∃ a b,∃ c:Nat,(x0.cell 8)=D.sl a 9 b c/\Br ((b.length:Int)==1) (∃ s,(x0.cell
 1)=D.lit (.string s)/\(1=([D.lit (.string s)]).length/\1=1)/\(1=([D.lit (.string s)]).length/\1=1)/\∀ a b,N<=b->Fresh N b a [D.ag [D.lit
 (.string s)]]->∀ c,b<=c->Q a [D.lit (.string s)] 1 0 c) (∃ a:Int,(x0.cell 0)=D.lit (.int .i64 a)/\Br (a==8) (∃ a b,∃ c:Nat,
 (x0.cell 8)=D.sl a 9 b c/\Br ((b.length:Int)==2) (∃ a,(x0.cell 1)=D.lit (.string a)/\(1=([D.lit (.string a)]).length/\1=1)/\(1 =
 ([D.lit (.string a)]).length/\1=1)/\∀ b c,N<=c->Fresh N c b [D.ag [D.lit (.string a)]]->∀ d,c<=d->Q b [D.lit (.string a)] 1 1
 d) (∃ a:Int,(x0.cell 0)=D.lit (.int .i64 a)/\Br (a==9) (∃ a b,∃ c:Nat,(x0.cell 8)=D.sl a 9 b c/\Br ((b.length:Int)==1)
 (∃ a,(x0.cell 1)=D.lit (.string a)/\∃ b,(x0.cell 2)=D.lit (.string b)/\(2=([D.lit (.string a),D.lit (.string b)]).length/\2=2)/\(2=([D.lit
 (.string a),D.lit (.string b)]).length/\2=2)/\∀ c d,N<=d->Fresh N d c [D.ag [D.lit (.string a),D.lit (.string b)]]->∀ e,d<=e
 -> Q c [D.lit (.string a),D.lit (.string b)] 2 0 e) ((0=0/\0=0)/\(0=0/\0=0)/\∀ a b,N<=b->Fresh N b a [D.ag []]->∀ c,b<=c
 -> Q a [] 0 (-1) c)) ((0=0/\0=0)/\(0=0/\0=0)/\∀ a b,N<=b->Fresh N b a [D.ag []]->∀ c,b<=c->Q a [] 0 (-1) c))) (∃ a
 : Int,(x0.cell 0)=D.lit (.int .i64 a)/\Br (a==9) (∃ a b,∃ c:Nat,(x0.cell 8)=D.sl a 9 b c/\Br ((b.length:Int)==1) (∃ a,(x0.cell
 1)=D.lit (.string a)/\∃ b,(x0.cell 2)=D.lit (.string b)/\(2=([D.lit (.string a),D.lit (.string b)]).length/\2=2)/\(2=([D.lit (.string a),
 D.lit (.string b)]).length/\2=2)/\∀ c d,N<=d->Fresh N d c [D.ag [D.lit (.string a),D.lit (.string b)]]->∀ e,d<=e->Q c [D.lit
 (.string a),D.lit (.string b)] 2 0 e) ((0=0/\0=0)/\(0=0/\0=0)/\∀ a b,N<=b->Fresh N b a [D.ag []]->∀ c,b<=c->Q
 a [] 0 (-1) c)) ((0=0/\0=0)/\(0=0/\0=0)/\∀ a b,N<=b->Fresh N b a [D.ag []]->∀ c,b<=c->Q a [] 0 (-1) c))))
 (∃ a:Int,(x0.cell 0)=D.lit (.int .i64 a)/\Br (a==8) (∃ a b,∃ c:Nat,(x0.cell 8)=D.sl a 9 b c/\Br ((b.length:Int)==2) (∃
 a,(x0.cell 1)=D.lit (.string a)/\(1=([D.lit (.string a)]).length/\1=1)/\(1=([D.lit (.string a)]).length/\1=1)/\∀ b c,N<=c->Fresh
 N c b [D.ag [D.lit (.string a)]]->∀ d,c<=d->Q b [D.lit (.string a)] 1 1 d) (∃ a:Int,(x0.cell 0)=D.lit (.int .i64 a)/\Br (a
 == 9) (∃ a b,∃ c:Nat,(x0.cell 8)=D.sl a 9 b c/\Br ((b.length:Int)==1) (∃ a,(x0.cell 1)=D.lit (.string a)/\∃ b,(x0.cell 2)
 = D.lit (.string b)/\(2=([D.lit (.string a),D.lit (.string b)]).length/\2=2)/\(2=([D.lit (.string a),D.lit (.string b)]).length/\2=2)/\∀
 c d,N<=d->Fresh N d c [D.ag [D.lit (.string a),D.lit (.string b)]]->∀ e,d<=e->Q c [D.lit (.string a),D.lit (.string b)]
 2 0 e) ((0=0/\0=0)/\(0=0/\0=0)/\∀ a b,N<=b->Fresh N b a [D.ag []]->∀ c,b<=c->Q a [] 0 (-1) c)) ((0=0/\0 =
 0)/\(0=0/\0=0)/\∀ a b,N<=b->Fresh N b a [D.ag []]->∀ c,b<=c->Q a [] 0 (-1) c))) (∃ a:Int,(x0.cell 0)=D.lit (.int
 .i64 a)/\Br (a==9) (∃ a b,∃ c:Nat,(x0.cell 8)=D.sl a 9 b c/\Br ((b.length:Int)==1) (∃ a,(x0.cell 1)=D.lit (.string a)
 /\ ∃ b,(x0.cell 2)=D.lit (.string b)/\(2=([D.lit (.string a),D.lit (.string b)]).length/\2=2)/\(2=([D.lit (.string a),D.lit (.string b)]).length
 /\ 2=2)/\∀ c d,N<=d->Fresh N d c [D.ag [D.lit (.string a),D.lit (.string b)]]->∀ e,d<=e->Q c [D.lit (.string a),D.lit
 (.string b)] 2 0 e) ((0=0/\0=0)/\(0=0/\0=0)/\∀ a b,N<=b->Fresh N b a [D.ag []]->∀ c,b<=c->Q a [] 0 (-1) c))
 ((0=0/\0=0)/\(0=0/\0=0)/\∀ a b,N<=b->Fresh N b a [D.ag []]->∀ c,b<=c->Q a [] 0 (-1) c)))):ACalls prog 76 [.sl 0,.int .i64] [PV.dg 9 x0] N Q:=
  eE (H:=zDv) (by kernel_rfl) (by kernel_rfl) h
theorem pn (N:Nat) (a0:Option Addr) (e0:List D) (c0:Nat) (s1:ByteArray) (Q:QT [.sl 0]) (h :
Bel N (D.sl a0 0 e0 c0)->z8 Q N a0 e0 c0 s1 0 0 0 [] 0 N):ACalls prog 77 [.sl 0] [PV.sv a0 0 e0 c0,PV.str s1] N Q:=
 eE (H:=uO) (by kernel_rfl) (by kernel_rfl) h
theorem zBF (N:Nat) (a0:Option Addr) (e0:List D) (c0:Nat) (a1:Option Addr) (e1:List D) (c1:Nat) (Q:QT [.row 9 0]) (h :
Bel N (D.sl a0 0 e0 c0)->Bel N (D.sl a1 0 e1 c1)->yH Q N a0 e0 c0 a1 e1 c1 0 0 0 [] 0 N):ACalls prog 78 [.row 9 0] [PV.sv a0 0 e0 c0,PV.sv a1 0 e1 c1] N Q:=
 eE (H:=wo) (by kernel_rfl) (by kernel_rfl) h
theorem zCs (N:Nat) (x0:D) (Q:QT [.sl 0]) (h :
Bel N x0->∃ n:Int,(x0.cell 0)=D.lit (.int .i64 n)/\Br (n==1) (∃ s,(x0.cell 1)=D.lit (.string s)/\(1=([D.lit (.string s)]).length/\1=1)/\(1=([D.lit
 (.string s)]).length/\1=1)/\∀ a b,N<=b->Fresh N b a [D.ag [D.lit (.string s)]]->∀ c,b<=c->Q a [D.lit (.string s)] 1 c) (∀ a,N<=a ->
 ACalls prog 76 [.sl 0,.int .i64] [.dg 9 x0] a (fun b c d e f=>a<=f->Bel f (D.sl b 0 c d)->zj Q N b c d e 0 0 0 x0 []
 0 f))):ACalls prog 21 [.sl 0] [PV.dg 9 x0] N Q:=
  eE (H:=vi) (by kernel_rfl) (by kernel_rfl) h
theorem vI (Q:QT [.sl 0]) (N0:Nat) (a0:Option Addr) (e0:List D) (c0:Nat) (s1:ByteArray) (m5 c5:Nat) (n6:Int) (r0:List D) (q0:Nat) (N:Nat) (h :
Br (decide (n6<(e0.length:Int))) ((0<=n6/\n6<(e0.length:Int))/\∃ s,List.getD e0 n6.toNat default=D.lit (.string s)/\Br (!(ByteArray.toList s==ByteArray.toList
 s1)) ((0<=n6/\n6<(e0.length:Int))/\∃ a,List.getD e0 n6.toNat default=D.lit (.string a)/\(m5=r0.length/\c5=q0)/\zA r0 [D.lit (.string a)]
 16/\∀ (c:Nat),z8 Q N0 a0 e0 c0 s1 (r0++[D.lit (.string a)]).length c (IntKind.i64.wrap (n6+1)) (r0++[D.lit (.string a)]) c N) (z8
 Q N0 a0 e0 c0 s1 m5 c5 (IntKind.i64.wrap (n6+1)) r0 q0 N)) ((m5=r0.length/\c5=q0)/\(m5=r0.length/\c5=q0)/\(m5=r0.length/\c5=q0)/\∀ a b,N <=
 b->Fresh N0 b a [D.ag r0]->∀ c,b<=c->Q a r0 q0 c)):z8 Q N0 a0 e0 c0 s1 m5 c5 n6 r0 q0 N:=
  hE (H:=uO) (by kernel_rfl) h
theorem vV (Q:QT [.row 9 0]) (N0:Nat) (a0:Option Addr) (e0:List D) (c0:Nat) (a1:Option Addr) (e1:List D) (c1 m5 c5:Nat) (n6:Int) (r0:List D) (q0:Nat) (N:Nat) (h :
Br (decide (n6<(e0.length:Int))) ((0<=n6/\n6<(e0.length:Int))/\∃ s,List.getD e0 n6.toNat default=D.lit (.string s)/\(m5=r0.length/\c5=q0)/\∀
 a,ApA a r0->∀ b,N<=b->vw b [a]->ACalls prog 22 [.int .i64] [.sv a 0 r0 c5,.str s] b (fun n a=>b<=a->Br (decide (n<0)) ((0<=n6/\n6
 < (e0.length:Int))/\∃ b,List.getD e0 n6.toNat default=D.lit (.string b)/\(m5=r0.length/\c5=q0)/\zA r0 [D.lit (.string b)] 16/\∀ (c:Nat),
 yH Q N0 a0 e0 c0 a1 e1 c1 (r0++[D.lit (.string b)]).length c (IntKind.i64.wrap (n6+1)) (r0++[D.lit (.string b)]) c a) (yH
 Q N0 a0 e0 c0 a1 e1 c1 m5 c5 (IntKind.i64.wrap (n6+1)) r0 q0 a))) (zl Q N0 a1 e1 c1 m5 c5 0 r0 q0 N)):yH Q N0 a0 e0 c0 a1 e1 c1 m5 c5 n6 r0 q0 N:=
  hE (H:=wo) (by kernel_rfl) h
theorem ut (Q:QT [.sl 0]) (N0:Nat) (a3:Option Addr) (e3:List D) (c3:Nat) (n4:Int) (m5 c5:Nat) (n6:Int) (y0:D) (r1:List D) (q1:Nat) (N:Nat) (h :
∃ a b,∃ c:Nat,(y0.cell 8)=D.sl a 9 b c/\Br (decide (n6<(b.length:Int))) (∃ a b,∃ c:Nat,(y0.cell 8)=D.sl a 9 b c/\(0<=n6/\n6
 < (b.length:Int))/\∀ a,N<=a->ACalls prog 21 [.sl 0] [.dg 9 (List.getD b n6.toNat default)] a (fun b c d e=>a<=e->Bel e (D.sl
 b 0 c d)->yM Q N0 a3 e3 c3 n4 m5 c5 n6 b c d 0 y0 r1 q1 e)) ((m5=r1.length/\c5=q1)/\(m5=r1.length/\c5=q1)/\(m5=r1.length
 /\ c5=q1)/\∀ a b,N<=b->Fresh N0 b a [D.ag r1]->∀ c,b<=c->Q a r1 q1 c)):zj Q N0 a3 e3 c3 n4 m5 c5 n6 y0 r1 q1 N:=
  hE (H:=vi) (by kernel_rfl) h
theorem uD (Q:QT [.row 9 0]) (N0:Nat) (a1:Option Addr) (e1:List D) (c1 m5 c5:Nat) (n7:Int) (r0:List D) (q0:Nat) (N:Nat) (h :
Br (decide (n7<(e1.length:Int))) ((0<=n7/\n7<(e1.length:Int))/\∃ s,List.getD e1 n7.toNat default=D.lit (.string s)/\(m5=r0.length/\c5=q0)/\∀
 a,ApA a r0->∀ b,N<=b->vw b [a]->ACalls prog 22 [.int .i64] [.sv a 0 r0 c5,.str s] b (fun n a=>b<=a->Br (decide (n<0)) ((0<=n7/\n7
 < (e1.length:Int))/\∃ b,List.getD e1 n7.toNat default=D.lit (.string b)/\(m5=r0.length/\c5=q0)/\zA r0 [D.lit (.string b)] 16/\∀ (c:Nat),
 zl Q N0 a1 e1 c1 (r0++[D.lit (.string b)]).length c (IntKind.i64.wrap (n7+1)) (r0++[D.lit (.string b)]) c a) (zl Q
 N0 a1 e1 c1 m5 c5 (IntKind.i64.wrap (n7+1)) r0 q0 a))) ((m5=r0.length/\c5=q0)/\∀ a,N<=a->Q r0 c5 a)):zl Q N0 a1 e1 c1 m5 c5 n7 r0 q0 N:=
  hE (H:=wo) (by kernel_rfl) h
theorem uR (Q:QT [.sl 0]) (N0:Nat) (a3:Option Addr) (e3:List D) (c3:Nat) (n4:Int) (m5 c5:Nat) (n6:Int) (a7:Option Addr) (e7:List D) (c7:Nat) (n8:Int) (y0:D) (r1:List D) (q1:Nat) (N:Nat) (h :
Br (decide (n8<(e3.length:Int))) (Br (n6==n4) ((0<=n8/\n8<(e3.length:Int))/\∃ s,List.getD e3 n8.toNat default=D.lit (.string s)/\∀ b,N<=b
 -> ACalls prog 77 [.sl 0] [.sv a7 0 e7 c7,.str s] b (fun a c d e=>b<=e->Bel e (D.sl a 0 c d)->yM Q N0 a3 e3 c3 n4 m5 c5 n6 a c
 d (IntKind.i64.wrap (n8+1)) y0 r1 q1 e)) ((m5=r1.length/\c5=q1)/\∀ a,ApA a r1->Off [a] (D.sl a7 0 e7 c7)->∀ b,N<=b->vw b [a]->ACalls
 prog 78 [.row (OfNat.ofNat 9) 0] [.sv a 0 r1 c5,.sv a7 0 e7 c7] b (fun c d e=>b<=e->Off [a] (D.ag c)/\(Bel e (D.ag c)->zj
 Q N0 a3 e3 c3 n4 c.length d (IntKind.i64.wrap (n6+1)) y0 c d e)))) ((m5=r1.length/\c5=q1)/\∀ a,ApA a r1->Off [a] (D.sl a7 0 e7 c7) ->
 ∀ b,N<=b->vw b [a]->ACalls prog 78 [.row (OfNat.ofNat 9) 0] [.sv a 0 r1 c5,.sv a7 0 e7 c7] b (fun c d e=>b<=e->Off [a] (D.ag
 c)/\(Bel e (D.ag c)->zj Q N0 a3 e3 c3 n4 c.length d (IntKind.i64.wrap (n6+1)) y0 c d e)))):yM Q N0 a3 e3 c3 n4 m5 c5 n6 a7 e7 c7 n8 y0 r1 q1 N:=
  hE (H:=vi) (by kernel_rfl) h
end Go.Proofs.YtkdjhkfiolhkiaaGreat
set_option maxRecDepth 100000
namespace Go.Proofs.YtkdjhkfiolhkiaaGreat
open Go Go.Proofs Go.Proofs.Tryz
def vX:Hint:=⟨[hc 4 [0,3,5,7,8] [(5,9,0)]],[],[(2,hs 9 [ec 2 [14,15]]),(8,hs 9 [ec 2 [40,41]])]⟩
def vl:Hint:=⟨[hc 6 [0,3,7,22,23,24] [(7,9,0)]],[],[(1,hs 9 [ec 2 [14,15]]),(8,[en 0,en 1,en 2,en 3,en 5,en 6,en 7,en 8,eh 4,eh 9,en 10]),(9,hs 9 [ec 2 [40,41]])]⟩
def zw (Q:QT [.sl 0]) (N0:Nat) (a0:Option Addr) (e0:List D) (c0 m5 c5:Nat) (b7:Bool) (n8:Int) (y0:D) (r1:List D) (q1:Nat) (N:Nat):Prop:=AT prog 18 [.sl 0] Q N0 .ord (zC prog 18 4) ⟨.sv a0 4 e0 c0::an 2 (.pb 0 0 0 0::an 1 (.sb 1 0 0 m5 c5::an 1 (.bool b7::.int .i64 n8::an 47 []))),[.vd y0 9,.arr 9 0 r1 q1],N,none⟩
def zu (Q:QT [.sl 0]) (N0:Nat) (a0:Option Addr) (e0:List D) (c0 m7 c7:Nat) (a22:Option Addr) (e22:List D) (c22:Nat) (n23 n24:Int) (y0:D) (r1:List D) (q1:Nat) (N:Nat):Prop:=AT prog 17 [.sl 0] Q N0 .ord (zC prog 17 6) ⟨.sv a0 4 e0 c0::an 2 (.pb 0 0 0 0::an 3 (.sb 1 0 0 m7 c7::an 14 (.sv a22 4 e22 c22::.int .i64 n23::.int .i64 n24::an 29 []))),[.vd y0 9,.arr 9 0 r1 q1],N,none⟩
theorem ql (N:Nat) (a0:Option Addr) (e0:List D) (c0:Nat) (x1:D) (Q:QT [.sl 0]) (h :
Bel N (D.sl a0 4 e0 c0)->Bel N x1->∀ a,N<=a->ACalls prog 68 [.ag 2,.bool] [.sv a0 4 e0 c0,.dg 9 x1] a (fun x b c=>a<=c->Bel c x->zw
 Q N a0 e0 c0 0 0 b 0 x1 [] 0 c)):ACalls prog 18 [.sl 0] [PV.sv a0 4 e0 c0,PV.dg 9 x1] N Q:=
  eE (H:=vX) (by kernel_rfl) (by kernel_rfl) h
theorem qc (N:Nat) (a0:Option Addr) (e0:List D) (c0:Nat) (x1:D) (Q:QT [.sl 0]) (h :
Bel N (D.sl a0 4 e0 c0)->Bel N x1->∀ a,N<=a->ACalls prog 64 [.ag 2,.bool] [.sv a0 4 e0 c0,.dg 9 x1] a (fun x b c=>a<=c->Bel c x->Br (!b)
 (∀ a,c<=a->Q Option.none [] 0 a) (zu Q N a0 e0 c0 0 0 a0 e0 c0 (e0.length:Int) 0 x1 [] 0 c))):ACalls prog 17 [.sl 0] [PV.sv a0 4 e0 c0,PV.dg 9 x1] N Q:=
  eE (H:=vl) (by kernel_rfl) (by kernel_rfl) h
theorem xH (Q:QT [.sl 0]) (N0:Nat) (a0:Option Addr) (e0:List D) (c0 m5 c5:Nat) (b7:Bool) (n8:Int) (y0:D) (r1:List D) (q1:Nat) (N:Nat) (h :
Br (decide (n8<(e0.length:Int))) (Br b7 (((0:Int)<=(0:Int)/\0<=n8/\n8<=(e0.length:Int))/\(0=0/\0=0)/\zA [] (List.drop 0 (List.take n8.toNat
 e0)) 56/\∀ (c:Nat),(0<=IntKind.i64.wrap (n8+1)/\IntKind.i64.wrap (n8+1)<=(e0.length:Int)/\(e0.length:Int)<=(e0.length:Int))/\(([]++List.drop
 0 (List.take n8.toNat e0)).length=([]++List.drop 0 (List.take n8.toNat e0)).length/\c=c)/\zA ([]++List.drop 0 (List.take n8.toNat e0)) (List.drop
 (IntKind.i64.wrap (n8+1)).toNat (List.take ((e0.length:Int)).toNat e0)) 56/\∀ (c:Nat),(([]++List.drop 0 (List.take n8.toNat e0)++List.drop (IntKind.i64.wrap
 (n8+1)).toNat (List.take ((e0.length:Int)).toNat e0)).length=([]++List.drop 0 (List.take n8.toNat e0)++List.drop (IntKind.i64.wrap (n8+1)).toNat (List.take
 ((e0.length:Int)).toNat e0)).length/\c=c)/\(([]++List.drop 0 (List.take n8.toNat e0)++List.drop (IntKind.i64.wrap (n8+1)).toNat (List.take ((e0.length
 : Int)).toNat e0)).length=([]++List.drop 0 (List.take n8.toNat e0)++List.drop (IntKind.i64.wrap (n8+1)).toNat (List.take ((e0.length:Int)).toNat e0)).length
 /\ c=c)/\(([]++List.drop 0 (List.take n8.toNat e0)++List.drop (IntKind.i64.wrap (n8+1)).toNat (List.take ((e0.length:Int)).toNat e0)).length=([]
 ++ List.drop 0 (List.take n8.toNat e0)++List.drop (IntKind.i64.wrap (n8+1)).toNat (List.take ((e0.length:Int)).toNat e0)).length/\c=c)/\∀ a d,N
 <= d->Fresh N0 d a [D.ag ([]++List.drop 0 (List.take n8.toNat e0)++List.drop (IntKind.i64.wrap (n8+1)).toNat (List.take ((e0.length:Int)).toNat e0))]
 -> ∀ e,d<=e->ACalls prog 68 [.ag 2,.bool] [.sv a 4 ([]++List.drop 0 (List.take n8.toNat e0)++List.drop (IntKind.i64.wrap (n8+1)).toNat (List.take
 ((e0.length:Int)).toNat e0)) c,.dg 9 y0] e (fun x b a=>e<=a->Bel a x->Br (!b) ((0<=n8/\n8<(e0.length:Int))/\∃ s,(if 0=0 then D.cell
 (List.getD e0 n8.toNat default) 0 else D.sub (List.getD e0 n8.toNat default) 0 0)=D.lit (.string s)/\(m5=r1.length/\c5=q1)/\zA r1 [D.lit (.string s)]
 16/\∀ (b:Nat),zw Q N0 a0 e0 c0 (r1++[D.lit (.string s)]).length b b7 (IntKind.i64.wrap (n8+1)) y0 (r1++[D.lit (.string s)]) b
 a) (zw Q N0 a0 e0 c0 m5 c5 b7 (IntKind.i64.wrap (n8+1)) y0 r1 q1 a))) ((m5=r1.length/\c5=q1)/\(m5=r1.length/\c5=q1)/\(m5=r1.length
 /\ c5=q1)/\∀ a b,N<=b->Fresh N0 b a [D.ag r1]->∀ c,b<=c->Q a r1 q1 c)) ((m5=r1.length/\c5=q1)/\(m5=r1.length/\c5=q1)/\(m5
 = r1.length/\c5=q1)/\∀ a b,N<=b->Fresh N0 b a [D.ag r1]->∀ c,b<=c->Q a r1 q1 c)):zw Q N0 a0 e0 c0 m5 c5 b7 n8 y0 r1 q1 N:=
  hE (H:=vX) (by kernel_rfl) h
theorem w7 (Q:QT [.sl 0]) (N0:Nat) (a0:Option Addr) (e0:List D) (c0 m7 c7:Nat) (a22:Option Addr) (e22:List D) (c22:Nat) (n23 n24:Int) (y0:D) (r1:List D) (q1:Nat) (N:Nat) (h :
Br (decide (n24<n23)) ((0<=n24/\n24<(e22.length:Int))/\((0:Int)<=(0:Int)/\0<=n24/\n24<=(e0.length:Int))/\(0<=IntKind.i64.wrap (n24+1)/\IntKind.i64.wrap
 (n24+1)<=(e0.length:Int)/\(e0.length:Int)<=(e0.length:Int))/\(0=0/\0=0)/\zA [] (List.drop 0 (List.take n24.toNat e0)) 56/\∀ (c:Nat),(([]
 ++ List.drop 0 (List.take n24.toNat e0)).length=([]++List.drop 0 (List.take n24.toNat e0)).length/\c=c)/\zA ([]++List.drop 0 (List.take n24.toNat
 e0)) (List.drop (IntKind.i64.wrap (n24+1)).toNat (List.take ((e0.length:Int)).toNat e0)) 56/\∀ (c:Nat),(([]++List.drop 0 (List.take n24.toNat e0) ++
 List.drop (IntKind.i64.wrap (n24+1)).toNat (List.take ((e0.length:Int)).toNat e0)).length=([]++List.drop 0 (List.take n24.toNat e0)++List.drop (IntKind.i64.wrap
 (n24+1)).toNat (List.take ((e0.length:Int)).toNat e0)).length/\c=c)/\(([]++List.drop 0 (List.take n24.toNat e0)++List.drop (IntKind.i64.wrap (n24
 + 1)).toNat (List.take ((e0.length:Int)).toNat e0)).length=([]++List.drop 0 (List.take n24.toNat e0)++List.drop (IntKind.i64.wrap (n24+1)).toNat (List.take
 ((e0.length:Int)).toNat e0)).length/\c=c)/\(([]++List.drop 0 (List.take n24.toNat e0)++List.drop (IntKind.i64.wrap (n24+1)).toNat (List.take ((e0.length
 : Int)).toNat e0)).length=([]++List.drop 0 (List.take n24.toNat e0)++List.drop (IntKind.i64.wrap (n24+1)).toNat (List.take ((e0.length:Int)).toNat e0)).length
 /\ c=c)/\∀ a d,N<=d->Fresh N0 d a [D.ag ([]++List.drop 0 (List.take n24.toNat e0)++List.drop (IntKind.i64.wrap (n24+1)).toNat (List.take ((e0.length
 : Int)).toNat e0))]->∀ e,d<=e->ACalls prog 64 [.ag 2,.bool] [.sv a 4 ([]++List.drop 0 (List.take n24.toNat e0)++List.drop (IntKind.i64.wrap (n24 +
 1)).toNat (List.take ((e0.length:Int)).toNat e0)) c,.dg 9 y0] e (fun x b a=>e<=a->Bel a x->Br (!b) (∃ s,D.cell (List.getD e22 n24.toNat default)
 0=D.lit (.string s)/\(m7=r1.length/\c7=q1)/\zA r1 [D.lit (.string s)] 16/\∀ (b:Nat),zu Q N0 a0 e0 c0 (r1++[D.lit (.string
 s)]).length b a22 e22 c22 n23 (IntKind.i64.wrap (n24+1)) y0 (r1++[D.lit (.string s)]) b a) (zu Q N0 a0 e0 c0 m7 c7 a22 e22 c22 n23 (IntKind.i64.wrap
 (n24+1)) y0 r1 q1 a))) ((m7=r1.length/\c7=q1)/\(m7=r1.length/\c7=q1)/\(m7=r1.length/\c7=q1)/\∀ a b,N<=b->Fresh N0 b a [D.ag r1]
 -> ∀ c,b<=c->Q a r1 q1 c)):zu Q N0 a0 e0 c0 m7 c7 a22 e22 c22 n23 n24 y0 r1 q1 N:=
  hE (H:=vl) (by kernel_rfl) h
end Go.Proofs.YtkdjhkfiolhkiaaGreat
