/- Printed by gen.py: what the functions come to. -/
import Derived.Test.YtkdjhkfiolhkiaaGreatJh
set_option linter.unusedVariables false
set_option maxRecDepth 100000
namespace Go.Proofs.YtkdjhkfiolhkiaaGreat
open Go Go.Proofs Go.Proofs.Tryz
def zDC:Hint:=⟨[],[],[(1,hs 8 [ec 5 [8]]),(3,hs 7 [ec 4 [16]])]⟩
def zF6:Hint:=⟨[],[],[(1,hs 13 [ec 10 [13]]),(3,hs 6 [ec 1 [18],ec 2 [19],ec 3 [20]])]⟩
def zDL:Hint:=⟨[],[],[(6,hs 3 [ec 1 [10]]),(8,hs 10 [ec 1 [14],ec 7 [20]])]⟩
def qi:Hint:=⟨[],[],[(1,hs 9 [ec 2 [5],ec 6 [9]])]⟩
def rC:Hint:=⟨[],[],[]⟩
def rW:Hint:=⟨[hc 4 [1,2,3,15,16,17]],[],[(1,hs 5 [ec 3 [10]]),(6,[en 0,en 1,en 2,en 4,ec 3 [22],ec 5 [21],en 6])]⟩
def xU (Q:QT [.bool]) (N0:Nat) (n1:Int) (a15:Option Addr) (e15:List D) (c15:Nat) (n16 n17:Int) (y0:D) (N:Nat):Prop:=AT prog 163 [.bool] Q N0 .ord (zF prog 163 4) ⟨an 1 (.int .i64 n1::.fn 183 []::.pb 0 0 0 0::an 11 (.sv a15 9 e15 c15::.int .i64 n16::.int .i64 n17::an 11 [])),[.vd y0 9],N,none⟩
theorem zCo (N:Nat) (x0:D) (Q:QT [.ag 9,.bool]) (h :
Bel N x0->∃ n:Int,(x0.cell 0)=D.lit (.int .i64 n)/\Br (bne n 10) (∀ a,N<=a->Q (D.ag [D.lit (.int .i64 0),D.lit (.string (bytes [])),D.lit (.string
 (bytes [])),D.lit (.int .i64 0),D.lit (.int .i64 0),D.sl Option.none 2 [] 0,D.lit (.int .i64 0),D.sl Option.none 2 [] 0,D.sl Option.none 9 [] 0]) false a)
 (∀ d,N<=d->ACalls prog 51 [.bool] [.dg 9 x0] d (fun b e=>d<=e->Br (!b) (∀ a,e<=a->Q (D.ag [D.lit (.int .i64 0),D.lit (.string (bytes
 [])),D.lit (.string (bytes [])),D.lit (.int .i64 0),D.lit (.int .i64 0),D.sl Option.none 2 [] 0,D.lit (.int .i64 0),D.sl Option.none 2 [] 0,D.sl Option.none
 9 [] 0]) false a) (∃ a b,∃ c:Nat,(x0.cell 8)=D.sl a 9 b c/\((0:Int)<=(0:Int)/\0<(b.length:Int))/\∀ a,e<=a->ACalls prog 121 [Sh.pk,
 .int .i64,.str,.str,.int .i64,Sh.dc,Sh.dc,Sh.dc,Sh.dc,.row (OfNat.ofNat 30) 9] [.dg 9 (List.getD b 0 default)] a (fun b s c d x e f g h
 i j=>a<=j->Bel j (D.ag h)->(h.length=h.length/\i=i)/\(h.length=h.length/\i=i)/\∀ a k,j<=k->Fresh N k
 a [D.ag h,x,e,f,g]->∀ j,k<=j->Q (D.ag [D.lit (.int .i64 b),D.lit (.string s),D.lit (.string c),D.lit (.int .i64 d),x,e,f,
 g,D.sl a 9 h i]) true j))))):ACalls prog 48 [.ag 9,.bool] [PV.dg 9 x0] N Q:=
  eE (H:=zDC) (by kernel_rfl) (by kernel_rfl) h
theorem qy (N:Nat) (x0:D) (Q:QT [.ag 9,.bool]) (h :
Bel N x0->∃ n:Int,(x0.cell 0)=D.lit (.int .i64 n)/\Br (bne n 2) (∃ d:Int,(x0.cell 0)=D.lit (.int .i64 d)/\Br (bne d 3) (∀ a,N<=a->Q (D.ag
 [D.lit (.int .i64 0),D.lit (.string (bytes [])),D.lit (.string (bytes [])),D.lit (.int .i64 0),D.lit (.int .i64 0),D.sl Option.none 2 [] 0,D.lit (.int .i64
 0),D.sl Option.none 2 [] 0,D.sl Option.none 9 [] 0]) false a) (∀ d,N<=d->ACalls prog 119 [.bool] [.dg 9 x0] d (fun b e=>d<=e->Br (!b) (∀ a,
 e<=a->Q (D.ag [D.lit (.int .i64 0),D.lit (.string (bytes [])),D.lit (.string (bytes [])),D.lit (.int .i64 0),D.lit (.int .i64 0),D.sl Option.none 2 []
 0,D.lit (.int .i64 0),D.sl Option.none 2 [] 0,D.sl Option.none 9 [] 0]) false a) (∀ b,e<=b->ACalls prog 121 [Sh.pk,.int .i64,.str,.str,.int .i64,
 Sh.dc,Sh.dc,Sh.dc,Sh.dc,.row (OfNat.ofNat 30) 9] [.dg 9 x0] b (fun c s d e x f g h i j k=>b<=k->Bel k (D.ag i)->(i.length=i.length
 /\ j=j)/\∀ a b,k<=b->Fresh N b a [D.ag i]->(1=([D.ag [D.lit (.int .i64 c),D.lit (.string s),D.lit (.string d),D.lit (.int .i64 e),x,f,
 g,h,D.sl a 9 i j]]).length/\1=1)/\∀ k l,b<=l->Fresh N l k [D.ag [D.ag [D.lit (.int .i64 c),D.lit (.string s),D.lit (.string d),D.lit
 (.int .i64 e),x,f,g,h,D.sl a 9 i j]]]->∀ b,l<=b->ACalls prog 120 [.ag 9] [.int .i64 10,.sv k 9 [D.ag [D.lit (.int .i64 c),D.lit (.string
 s),D.lit (.string d),D.lit (.int .i64 e),x,f,g,h,D.sl a 9 i j]] 1] b (fun a c=>b<=c->Bel c a->∀ b,c<=b->Q a
 true b)))))) (∀ a,N<=a->ACalls prog 119 [.bool] [.dg 9 x0] a (fun b c=>a<=c->Br (!b) (∀ a,c<=a->Q (D.ag [D.lit (.int
 .i64 0),D.lit (.string (bytes [])),D.lit (.string (bytes [])),D.lit (.int .i64 0),D.lit (.int .i64 0),D.sl Option.none 2 [] 0,D.lit (.int .i64 0),D.sl Option.none
 2 [] 0,D.sl Option.none 9 [] 0]) false a) (∀ a,c<=a->ACalls prog 121 [Sh.pk,.int .i64,.str,.str,.int .i64,Sh.dc,Sh.dc,Sh.dc,Sh.dc,.row (OfNat.ofNat
 30) 9] [.dg 9 x0] a (fun b c d e f g h i j k l=>a<=l->Bel l (D.ag j)->(j.length=j.length/\k=k)/\∀ a
 m,l<=m->Fresh N m a [D.ag j]->(1=([D.ag [D.lit (.int .i64 b),D.lit (.string c),D.lit (.string d),D.lit (.int .i64 e),f,g,
 h,i,D.sl a 9 j k]]).length/\1=1)/\∀ l n,m<=n->Fresh N n l [D.ag [D.ag [D.lit (.int .i64 b),D.lit (.string c),D.lit (.string
 d),D.lit (.int .i64 e),f,g,h,i,D.sl a 9 j k]]]->∀ m,n<=m->ACalls prog 120 [.ag 9] [.int .i64 10,.sv l 9 [D.ag [D.lit (.int
 .i64 b),D.lit (.string c),D.lit (.string d),D.lit (.int .i64 e),f,g,h,i,D.sl a 9 j k]] 1] m (fun a b=>m<=b->Bel
 b a->∀ c,b<=c->Q a true c)))))):ACalls prog 46 [.ag 9,.bool] [PV.dg 9 x0] N Q:=
  eE (H:=zF6) (by kernel_rfl) (by kernel_rfl) h
theorem sO (N:Nat) (x0:D) (Q:QT [.bool]) (h :
Bel N x0->∃ n:Int,(x0.cell 0)=D.lit (.int .i64 n)/\Br (n==2) (∀ a,N<=a->ACalls prog 119 [.bool] [.dg 9 x0] a (fun b c=>a<=c->∀ a,c
 <= a->Q b a)) (Br (n==3) (∀ a,N<=a->ACalls prog 119 [.bool] [.dg 9 x0] a (fun b c=>a<=c->∀ a,c<=a->Q b a)) (Br (n==6) (∀
 a,N<=a->ACalls prog 119 [.bool] [.dg 9 x0] a (fun b c=>a<=c->∀ a,c<=a->Q b a)) (Br (n==9) (∀ a,N<=a->ACalls prog 119
 [.bool] [.dg 9 x0] a (fun b c=>a<=c->∀ a,c<=a->Q b a)) (Br (n==10) (∀ b,N<=b->ACalls prog 119 [.bool] [.dg 9 x0] b
 (fun d e=>b<=e->Br d (∃ a b,∃ c:Nat,(x0.cell 8)=D.sl a 9 b c/\((0:Int)<=(0:Int)/\0<(b.length:Int))/\∀ a,e<=a->ACalls
 prog 125 [.bool] [.dg 9 (List.getD b 0 default),.int .i64 1] a (fun b c=>a<=c->∀ a,c<=a->Q b a)) (∀ a,e<=a->Q false
 a))) (∀ a,N<=a->Q false a)))))):ACalls prog 51 [.bool] [PV.dg 9 x0] N Q:=
  eE (H:=zDL) (by kernel_rfl) (by kernel_rfl) h
theorem qZ (N:Nat) (x0:D) (n1:Int) (Q:QT [.bool]) (h :
Bel N x0->∀ a,N<=a->ACalls prog 94 [.bool] [.dg 9 x0,.int .i64 n1] a (fun b c=>a<=c->Br b (∀ a,c<=a->ACalls prog 163 [.bool] [.dg 9
 x0,.int .i64 n1,.fn 183 []] a (fun b c=>a<=c->∀ a,c<=a->Q b a)) (∀ a,c<=a->Q false a))):ACalls prog 125 [.bool] [PV.dg 9 x0,PV.int .i64 n1] N Q:=
  eE (H:=qi) (by kernel_rfl) (by kernel_rfl) h
theorem rF (N:Nat) (x0:D) (n1:Int) (Q:QT [.bool]) (h :
Bel N x0->∃ n:Int,(x0.cell 0)=D.lit (.int .i64 n)/\Br (bne n 11) (∀ a,N<=a->Q true a) (∀ a,N<=a->Q (bne n1 1) a)):ACalls prog 183 [.bool] [PV.dg 9 x0,PV.int .i64 n1] N Q:=
 eE (H:=rC) (by kernel_rfl) (by kernel_rfl) h
theorem zAD (N:Nat) (x0:D) (n1:Int) (Q:QT [.bool]) (h :
Bel N x0->∀ d,N<=d->ACalls prog 183 [.bool] [.dg 9 x0,.int .i64 n1] d (fun b e=>d<=e->Br (!b) (∀ a,e<=a->Q false a) (∃ a b,∃ c
 : Nat,(x0.cell 8)=D.sl a 9 b c/\xU Q N n1 a b c (b.length:Int) 0 x0 e))):ACalls prog 163 [.bool] [.dg 9 x0,.int .i64 n1,.fn 183 []] N Q:=
  eE (H:=rW) (by kernel_rfl) (by kernel_rfl) h
theorem tH (Q:QT [.bool]) (N0:Nat) (n1:Int) (a15:Option Addr) (e15:List D) (c15:Nat) (n16 n17:Int) (y0:D) (N:Nat) (h :
Br (decide (n17<n16)) ((0<=n17/\n17<(e15.length:Int))/\∀ a,N<=a->ACalls prog 207 [.int .i64] [.dg 9 y0,.int .i64 n1] a (fun n c=>a<=c
 -> ∀ a,c<=a->ACalls prog 163 [.bool] [.dg 9 (List.getD e15 n17.toNat default),.int .i64 n,.fn 183 []] a (fun b c=>a<=c->Br (!b) (∀ a,c
 <= a->Q false a) (xU Q N0 n1 a15 e15 c15 n16 (IntKind.i64.wrap (n17+1)) y0 c)))) (∀ a,N<=a->Q true a)):xU Q N0 n1 a15 e15 c15 n16 n17 y0 N:=
  hE (H:=rW) (by kernel_rfl) h
end Go.Proofs.YtkdjhkfiolhkiaaGreat
set_option maxRecDepth 100000
namespace Go.Proofs.YtkdjhkfiolhkiaaGreat
open Go Go.Proofs Go.Proofs.Tryz
def qd:Hint:=⟨[hc 3 [1,3,4]],[],[(5,hs 9 [ec 6 [17]])]⟩
def uN:Hint:=⟨[hc 6 [1,4,5,6]],[],[(1,hs 8 [ec 1 [9]]),(3,hs 4 [ec 1 [18]]),(6,hs 3 [ec 1 [22]]),(8,hs 2 [ec 1 [27]]),(12,hs 8 [ec 1 [39]])]⟩
def wM (Q:QT [.int .i64]) (N0:Nat) (n3 n4:Int) (y0:D) (N:Nat):Prop:=AT prog 20 [.int .i64] Q N0 .ord (zF prog 20 3) ⟨an 1 (.pb 0 0 0 0::an 1 (.int .i64 n3::.int .i64 n4::an 16 [])),[.vd y0 9],N,none⟩
def tC (Q:QT [.ag 11]) (N0:Nat) (n1 n6 n0_0 n0_1:Int) (s0_2 s0_3:ByteArray) (n0_4 n0_5:Int) (a0_6:Option Addr) (e0_6:List D) (c0_6:Nat) (n0_7:Int) (a0_8:Option Addr) (e0_8:List D) (c0_8:Nat) (a0_9:Option Addr) (e0_9:List D) (c0_9:Nat) (n0_10 n1_0:Int) (s1_1 s1_2:ByteArray) (n1_3:Int) (x1_4 x1_5 x1_6 x1_7:D) (m1_8 c1_8:Nat) (r2:List D) (q2:Nat) (N:Nat):Prop:=AT prog 118 [.ag 11] Q N0 .ord (zF prog 118 6) ⟨an 1 (.int .i64 n1::an 2 (.pb 0 0 0 0::.pb 1 0 0 0::.int .i64 n6::an 42 [])),[.var [.int .i64 n0_0,.int .i64 n0_1,.str s0_2,.str s0_3,.int .i64 n0_4,.int .i64 n0_5,.sv a0_6 2 e0_6 c0_6,.int .i64 n0_7,.sv a0_8 2 e0_8 c0_8,.sv a0_9 9 e0_9 c0_9,.int .i64 n0_10],.var [.int .i64 n1_0,.str s1_1,.str s1_2,.int .i64 n1_3,.dc x1_4,.dc x1_5,.dc x1_6,.dc x1_7,.sb 2 9 0 m1_8 c1_8],.arr 30 9 r2 q2],N,none⟩
def ye (Q:QT [.ag 11]) (N0:Nat) (n1 n6 n0_0 n0_1:Int) (s0_2 s0_3:ByteArray) (n0_4 n0_5:Int) (a0_6:Option Addr) (e0_6:List D) (c0_6:Nat) (n0_7:Int) (a0_8:Option Addr) (e0_8:List D) (c0_8:Nat) (a0_9:Option Addr) (e0_9:List D) (c0_9:Nat) (n0_10:Int) (y1:D) (N:Nat):Prop:=AT prog 118 [.ag 11] Q N0 .ord (zF prog 118 6) ⟨an 1 (.int .i64 n1::an 2 (.pb 0 0 0 0::.pb 1 0 0 0::.int .i64 n6::an 42 [])),[.var [.int .i64 n0_0,.int .i64 n0_1,.str s0_2,.str s0_3,.int .i64 n0_4,.int .i64 n0_5,.sv a0_6 2 e0_6 c0_6,.int .i64 n0_7,.sv a0_8 2 e0_8 c0_8,.sv a0_9 9 e0_9 c0_9,.int .i64 n0_10],.vd y1 9],N,none⟩
theorem zF5 (N:Nat) (x0:D) (Q:QT [.int .i64]) (h :
Bel N x0->wM Q N 1 0 x0 N):ACalls prog 20 [.int .i64] [PV.dg 9 x0] N Q:=
 eE (H:=qd) (by kernel_rfl) (by kernel_rfl) h
theorem zDt (N:Nat) (x0:D) (n1:Int) (Q:QT [.ag 11]) (h :
Bel N x0->∀ a,N<=a->ACalls prog 96 [.bool] [.dg 9 x0,.int .i64 0] a (fun b d=>a<=d->Br (!b) (∀ a,d<=a->Q (D.ag [D.lit (.int .i64 0),
 D.lit (.int .i64 0),D.lit (.string (bytes [])),D.lit (.string (bytes [])),D.lit (.int .i64 0),D.lit (.int .i64 0),D.sl Option.none 2 [] 0,D.lit (.int .i64
 0),D.sl Option.none 2 [] 0,D.sl Option.none 9 [] 0,D.lit (.int .i64 0)]) a) (∀ a,d<=a->ACalls prog 117 [.bool] [.int .i64 n1,.int .i64 0,.int .i64
 200] a (fun b d=>a<=d->Br (!b) (∀ a,d<=a->Q (D.ag [D.lit (.int .i64 0),D.lit (.int .i64 0),D.lit (.string (bytes [])),D.lit (.string
 (bytes [])),D.lit (.int .i64 0),D.lit (.int .i64 0),D.sl Option.none 2 [] 0,D.lit (.int .i64 0),D.sl Option.none 2 [] 0,D.sl Option.none 9 [] 0,D.lit (.int
 .i64 0)]) a) (∀ a,d<=a->ACalls prog 124 [Sh.pk,.int .i64,.str,.str,.int .i64,Sh.dc,Sh.dc,Sh.dc,Sh.dc,.row (OfNat.ofNat 30) 9] [.dg 9 x0] a
 (fun n s b c x d e f g h i=>a<=i->Bel i (D.ag g)->tC Q N n1 0 0 0 (bytes []) (bytes []) 0 0 Option.none [] 0 0 Option.none
 [] 0 Option.none [] 0 0 n s b c x d e f g.length h g h i)))))):ACalls prog 118 [.ag 11] [PV.dg 9 x0,PV.int .i64 n1] N Q:=
  eE (H:=uN) (by kernel_rfl) (by kernel_rfl) h
theorem tn (Q:QT [.int .i64]) (N0:Nat) (n3 n4:Int) (y0:D) (N:Nat) (h :
∃ a b,∃ c:Nat,(y0.cell 8)=D.sl a 9 b c/\Br (decide (n4<(b.length:Int))) (∃ a b,∃ c:Nat,(y0.cell 8)=D.sl a 9 b c/\(0<=n4/\n4
 < (b.length:Int))/\∀ a,N<=a->ACalls prog 20 [.int .i64] [.dg 9 (List.getD b n4.toNat default)] a (fun n b=>a<=b->wM Q N0
 (IntKind.i64.wrap (n3+n)) (IntKind.i64.wrap (n4+1)) y0 b)) (∀ a,N<=a->Q n3 a)):wM Q N0 n3 n4 y0 N:=
  hE (H:=qd) (by kernel_rfl) h
theorem zAt (Q:QT [.ag 11]) (N0:Nat) (n1 n6 n0_0 n0_1:Int) (s0_2 s0_3:ByteArray) (n0_4 n0_5:Int) (a0_6:Option Addr) (e0_6:List D) (c0_6:Nat) (n0_7:Int) (a0_8:Option Addr) (e0_8:List D) (c0_8:Nat) (a0_9:Option Addr) (e0_9:List D) (c0_9:Nat) (n0_10 n1_0:Int) (s1_1 s1_2:ByteArray) (n1_3:Int) (x1_4 x1_5 x1_6 x1_7:D) (m1_8 c1_8:Nat) (r2:List D) (q2:Nat) (N:Nat) (h :
(m1_8=r2.length/\c1_8=q2)/\(m1_8=r2.length/\c1_8=q2)/\∀ a c,N<=c->Fresh N0 c a [D.ag r2]->∀ d,c<=d->ACalls prog 20 [.int .i64] [.dg
 9 (D.ag [D.lit (.int .i64 n1_0),D.lit (.string s1_1),D.lit (.string s1_2),D.lit (.int .i64 n1_3),x1_4,x1_5,x1_6,x1_7,D.sl a 9 r2 q2])] d (fun n c=>
 d<=c->Br (decide (n>400)) (∀ a,c<=a->Q (D.ag [D.lit (.int .i64 3),D.lit (.int .i64 0),D.lit (.string (bytes [])),D.lit (.string (bytes [])),
 D.lit (.int .i64 0),D.lit (.int .i64 0),D.sl Option.none 2 [] 0,D.lit (.int .i64 0),D.sl Option.none 2 [] 0,D.sl Option.none 9 [] 0,D.lit (.int .i64 n6)])
 a) (∀ d,c<=d->ACalls prog 126 [.bool] [.dg 9 (D.ag [D.lit (.int .i64 n1_0),D.lit (.string s1_1),D.lit (.string s1_2),D.lit (.int .i64 n1_3),x1_4,
 x1_5,x1_6,x1_7,D.sl a 9 r2 q2])] d (fun b c=>d<=c->Br b (∀ b,c<=b->Q (D.ag [D.lit (.int .i64 1),D.lit (.int .i64 n1_0),D.lit (.string s1_1),
 D.lit (.string s1_2),D.lit (.int .i64 n1_3),x1_4,x1_5,x1_6,x1_7,D.sl a 9 r2 q2,D.lit (.int .i64 n6)]) b) (Br (n6==n1) (∀ b,c<=b->Q (D.ag [D.lit
 (.int .i64 2),D.lit (.int .i64 n1_0),D.lit (.string s1_1),D.lit (.string s1_2),D.lit (.int .i64 n1_3),x1_4,x1_5,x1_6,x1_7,D.sl a 9 r2 q2,D.lit (.int .i64
 n6)]) b) (∀ b,c<=b->ACalls prog 178 [.ag 9,.int .i64] [.dg 9 (D.ag [D.lit (.int .i64 n1_0),D.lit (.string s1_1),D.lit (.string s1_2),D.lit (.int .i64
 n1_3),x1_4,x1_5,x1_6,x1_7,D.sl a 9 r2 q2])] b (fun x c d=>b<=d->Bel d x->Br (c==0) (∀ b,d<=b->Q (D.ag [D.lit (.int .i64
 4),D.lit (.int .i64 n1_0),D.lit (.string s1_1),D.lit (.string s1_2),D.lit (.int .i64 n1_3),x1_4,x1_5,x1_6,x1_7,D.sl a 9 r2 q2,D.lit (.int .i64 n6)]) b)
 (ye Q N0 n1 (IntKind.i64.wrap (n6+1)) n0_0 n0_1 s0_2 s0_3 n0_4 n0_5 a0_6 e0_6 c0_6 n0_7 a0_8 e0_8 c0_8 a0_9 e0_9 c0_9 n0_10 x d)))))))):tC Q N0 n1 n6 n0_0 n0_1 s0_2 s0_3 n0_4 n0_5 a0_6 e0_6 c0_6 n0_7 a0_8 e0_8 c0_8 a0_9 e0_9 c0_9 n0_10 n1_0 s1_1 s1_2 n1_3 x1_4 x1_5 x1_6 x1_7 m1_8 c1_8 r2 q2 N:=
  hE (H:=uN) (by kernel_rfl) h
theorem vO (Q:QT [.ag 11]) (N0:Nat) (n1 n6 n0_0 n0_1:Int) (s0_2 s0_3:ByteArray) (n0_4 n0_5:Int) (a0_6:Option Addr) (e0_6:List D) (c0_6:Nat) (n0_7:Int) (a0_8:Option Addr) (e0_8:List D) (c0_8:Nat) (a0_9:Option Addr) (e0_9:List D) (c0_9:Nat) (n0_10:Int) (y1:D) (N:Nat) (h :
∀ a,N<=a->ACalls prog 20 [.int .i64] [.dg 9 y1] a (fun n c=>a<=c->Br (decide (n>400)) (∀ a,c<=a->Q (D.ag [D.lit (.int .i64 3),D.lit
 (.int .i64 0),D.lit (.string (bytes [])),D.lit (.string (bytes [])),D.lit (.int .i64 0),D.lit (.int .i64 0),D.sl Option.none 2 [] 0,D.lit (.int .i64 0),D.sl
 Option.none 2 [] 0,D.sl Option.none 9 [] 0,D.lit (.int .i64 n6)]) a) (∀ a,c<=a->ACalls prog 126 [.bool] [.dg 9 y1] a (fun b c=>a<=c->Br
 b (∀ a,c<=a->Q (D.ag [D.lit (.int .i64 1),(y1.cell 0),(y1.cell 1),(y1.cell 2),(y1.cell 3),(y1.cell 4),(y1.cell 5),(y1.cell 6),(y1.cell 7),(y1.cell
 8),D.lit (.int .i64 n6)]) a) (Br (n6==n1) (∀ a,c<=a->Q (D.ag [D.lit (.int .i64 2),(y1.cell 0),(y1.cell 1),(y1.cell 2),(y1.cell 3),(y1.cell 4),
 (y1.cell 5),(y1.cell 6),(y1.cell 7),(y1.cell 8),D.lit (.int .i64 n6)]) a) (∀ a,c<=a->ACalls prog 178 [.ag 9,.int .i64] [.dg 9 y1] a (fun x b
 c=>a<=c->Bel c x->Br (b==0) (∀ a,c<=a->Q (D.ag [D.lit (.int .i64 4),(y1.cell 0),(y1.cell 1),(y1.cell 2),(y1.cell 3),(y1.cell 4),
 (y1.cell 5),(y1.cell 6),(y1.cell 7),(y1.cell 8),D.lit (.int .i64 n6)]) a) (ye Q N0 n1 (IntKind.i64.wrap (n6+1)) n0_0 n0_1 s0_2 s0_3 n0_4
 n0_5 a0_6 e0_6 c0_6 n0_7 a0_8 e0_8 c0_8 a0_9 e0_9 c0_9 n0_10 x c)))))))):ye Q N0 n1 n6 n0_0 n0_1 s0_2 s0_3 n0_4 n0_5 a0_6 e0_6 c0_6 n0_7 a0_8 e0_8 c0_8 a0_9 e0_9 c0_9 n0_10 y1 N:=
  hE (H:=uN) (by kernel_rfl) h
end Go.Proofs.YtkdjhkfiolhkiaaGreat
