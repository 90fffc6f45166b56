/- Printed by gen.py: what the functions come to. -/
import Derived.Test.YtkdjhkfiolhkiaaGreatJh
set_option linter.unusedVariables false
set_option maxRecDepth 100000
namespace Go.Proofs.YtkdjhkfiolhkiaaGreat
open Go Go.Proofs Go.Proofs.Tryz
def rP:Hint:=⟨[hc 4 [1,2,3,8,9,10,12]],[],[(1,hs 4 [ec 1 [16]]),(8,hs 15 [ec 6 [46]]),(9,[en 0,en 1,en 2,en 3,en 4,en 5,en 6,en 7,en 8,en 9,en 10,en 11,en 12,eh 13,ec 14 [62,68],en 15,eh 16])]⟩
def tR:Hint:=⟨[hc 9 [1,5,6,7,9,10,11]],[],[(2,hs 3 [ec 1 [21]]),(3,hs 4 [ec 1 [23]]),(6,hs 17 [ec 12 [45]]),(7,[en 0,en 1,en 2,en 3,ec 4 [54],ec 5 [51],eh 6]),(12,[en 0,en 1,en 2,en 3,en 4,en 5,en 6,en 7,en 8,en 9,ec 10 [78,80],en 11,eh 12])]⟩
def yG (Q:QT [.pk,.int .i64,.str,.str,.int .i64,.dc,.dc,.dc,.dc,.row 30 9]) (N0:Nat) (n1:Int) (s2:ByteArray) (a3:Option Addr) (e3:List D) (c3:Nat) (a10:Option Addr) (e10:List D) (c10:Nat) (n12 n0_0:Int) (s0_1 s0_2:ByteArray) (n0_3 n0_4:Int) (a0_5:Option Addr) (e0_5:List D) (c0_5:Nat) (n0_6:Int) (a0_7:Option Addr) (e0_7:List D) (c0_7:Nat) (a0_8:Option Addr) (e0_8:List D) (c0_8:Nat) (n1_0:Int) (s1_1 s1_2:ByteArray) (n1_3:Int) (x1_4 x1_5 x1_6 x1_7:D) (m1_8 c1_8:Nat) (r2:List D) (q2:Nat) (N:Nat):Prop:=AT prog 259 [.pk,.int .i64,.str,.str,.int .i64,.dc,.dc,.dc,.dc,.row 30 9] Q N0 .ord (zF prog 259 4) ⟨an 1 (.int .i64 n1::.str s2::.sv a3 0 e3 c3::an 4 (.pb 0 0 0 0::.pb 1 0 0 0::.sv a10 0 e10 c10::an 1 (.int .i64 n12::an 65 []))),[.var [.int .i64 n0_0,.str s0_1,.str s0_2,.int .i64 n0_3,.int .i64 n0_4,.sv a0_5 2 e0_5 c0_5,.int .i64 n0_6,.sv a0_7 2 e0_7 c0_7,.sv a0_8 9 e0_8 c0_8],.var [.int .i64 n1_0,.str s1_1,.str s1_2,.int .i64 n1_3,.dc x1_4,.dc x1_5,.dc x1_6,.dc x1_7,.sb 2 9 0 m1_8 c1_8],.arr 30 9 r2 q2],N,none⟩
def zC (Q:QT [.ag 9]) (N0:Nat) (s1:ByteArray) (n9:Int) (b10:Bool) (n11:Int) (y0:D) (n1_0:Int) (s1_1 s1_2:ByteArray) (n1_3 n1_4:Int) (a1_5:Option Addr) (e1_5:List D) (c1_5:Nat) (n1_6:Int) (a1_7:Option Addr) (e1_7:List D) (c1_7:Nat) (a1_8:Option Addr) (e1_8:List D) (c1_8:Nat) (n2_0:Int) (s2_1 s2_2:ByteArray) (n2_3:Int) (x2_4 x2_5 x2_6 x2_7:D) (m2_8 c2_8:Nat) (r3:List D) (q3:Nat) (N:Nat):Prop:=AT prog 249 [.ag 9] Q N0 .ord (zF prog 249 9) ⟨an 1 (.str s1::an 3 (.pb 0 0 0 0::.pb 1 0 0 0::.pb 2 0 0 0::an 1 (.int .i64 n9::.bool b10::.int .i64 n11::an 72 []))),[.vd y0 9,.var [.int .i64 n1_0,.str s1_1,.str s1_2,.int .i64 n1_3,.int .i64 n1_4,.sv a1_5 2 e1_5 c1_5,.int .i64 n1_6,.sv a1_7 2 e1_7 c1_7,.sv a1_8 9 e1_8 c1_8],.var [.int .i64 n2_0,.str s2_1,.str s2_2,.int .i64 n2_3,.dc x2_4,.dc x2_5,.dc x2_6,.dc x2_7,.sb 3 9 0 m2_8 c2_8],.arr 30 9 r3 q3],N,none⟩
theorem zDb (N:Nat) (x0:D) (n1:Int) (s2:ByteArray) (a3:Option Addr) (e3:List D) (c3:Nat) (Q:QT [.pk,.int .i64,.str,.str,.int .i64,.dc,.dc,.dc,.dc,.row 30 9]) (h :
Bel N x0->Bel N (D.sl a3 0 e3 c3)->∀ b,N<=b->ACalls prog 124 [Sh.pk,.int .i64,.str,.str,.int .i64,Sh.dc,Sh.dc,Sh.dc,Sh.dc,.row (OfNat.ofNat 30)
 9] [.dg 9 x0] b (fun n s c d x e f g h i j=>b<=j->Bel j (D.ag h)->∀ b,j<=b->ACalls prog 76 [.sl 0,.int .i64] [.dg 9 x0] b
 (fun a j k _ l=>b<=l->Bel l (D.sl a 0 j k)->yG Q N n1 s2 a3 e3 c3 a j k 0 0 (bytes []) (bytes []) 0 0 Option.none []
 0 0 Option.none [] 0 Option.none [] 0 n s c d x e f g h.length i h i l))):ACalls prog 259 [.pk,.int .i64,.str,.str,.int .i64,.dc,.dc,.dc,.dc,.row 30 9] [PV.dg 9 x0,PV.int .i64 n1,PV.str s2,PV.sv a3 0 e3 c3] N Q:=
  eE (H:=rP) (by kernel_rfl) (by kernel_rfl) h
theorem zBU (N:Nat) (x0:D) (s1:ByteArray) (x2:D) (Q:QT [.ag 9]) (h :
Bel N x0->Bel N x2->∃ n:Int,(x0.cell 0)=D.lit (.int .i64 n)/\Br (n==1) (∃ s,(x0.cell 1)=D.lit (.string s)/\Br (ByteArray.toList s==ByteArray.toList
 s1) (∀ b,N<=b->ACalls prog 124 [Sh.pk,.int .i64,.str,.str,.int .i64,Sh.dc,Sh.dc,Sh.dc,Sh.dc,.row (OfNat.ofNat 30) 9] [.dg 9 x2] b (fun c d
 e f x g h i j k l=>b<=l->Bel l (D.ag j)->(j.length=j.length/\k=k)/\(j.length=j.length/\k=k)/\∀ a b,l<=b->Fresh
 N b a [D.ag j,x,g,h,i]->∀ l,b<=l->Q (D.ag [D.lit (.int .i64 c),D.lit (.string d),D.lit (.string e),D.lit (.int .i64 f),x,g,
 h,i,D.sl a 9 j k]) l)) (∀ a,N<=a->ACalls prog 124 [Sh.pk,.int .i64,.str,.str,.int .i64,Sh.dc,Sh.dc,Sh.dc,Sh.dc,.row (OfNat.ofNat 30) 9]
 [.dg 9 x0] a (fun b c d e f g h i j k l=>a<=l->Bel l (D.ag j)->∀ a,l<=a->ACalls prog 76 [.sl 0,.int .i64] [.dg 9
 x0] a (fun l m n o p=>a<=p->Bel p (D.sl l 0 m n)->∀ a,p<=a->ACalls prog 22 [.int .i64] [.sv l 0 m n,.str s1] a
 (fun l m=>a<=m->Br (decide (o≥0)) (Br (!(decide (l≥0))) (∃ a n,∃ p:Nat,(x0.cell 8)=D.sl a 9 n p/\(0<=o/\o<(n.length
 : Int))/\∀ a,m<=a->ACalls prog 21 [.sl 0] [.dg 9 (List.getD n o.toNat default)] a (fun m n p q=>a<=q->Bel q (D.sl m
 0 n p)->∀ a,q<=a->ACalls prog 22 [.int .i64] [.sv m 0 n p,.str s1] a (fun m n=>a<=n->Br (decide (m≥0)) (∀ a,n
 <= a->ACalls prog 21 [.sl 0] [.dg 9 x2] a (fun b c d e=>a<=e->Bel e (D.sl b 0 c d)->∀ a,e<=a->ACalls prog 259 [Sh.pk,
 .int .i64,.str,.str,.int .i64,Sh.dc,Sh.dc,Sh.dc,Sh.dc,.row (OfNat.ofNat 30) 9] [.dg 9 x0,.int .i64 o,.str s1,.sv b 0 c d] a (fun b c d
 e f g h i j k m=>a<=m->Bel m (D.ag j)->zC Q N s1 o (decide (l≥0)) 0 x2 0 (bytes []) (bytes []) 0 0 Option.none
 [] 0 0 Option.none [] 0 Option.none [] 0 b c d e f g h i j.length k j k m))) (zC Q N s1 o (decide (l≥0)) 0 x2
 0 (bytes []) (bytes []) 0 0 Option.none [] 0 0 Option.none [] 0 Option.none [] 0 b c d e f g h i j.length k j k n)))) (zC
 Q N s1 o (decide (l≥0)) 0 x2 0 (bytes []) (bytes []) 0 0 Option.none [] 0 0 Option.none [] 0 Option.none [] 0 b c d e f g h i j.length k
 j k m)) (zC Q N s1 o (decide (l≥0)) 0 x2 0 (bytes []) (bytes []) 0 0 Option.none [] 0 0 Option.none [] 0 Option.none [] 0 b c d
 e f g h i j.length k j k m)))))) (∀ a,N<=a->ACalls prog 124 [Sh.pk,.int .i64,.str,.str,.int .i64,Sh.dc,Sh.dc,Sh.dc,Sh.dc,
 .row (OfNat.ofNat 30) 9] [.dg 9 x0] a (fun b c d e f g h i j k l=>a<=l->Bel l (D.ag j)->∀ a,l<=a->ACalls
 prog 76 [.sl 0,.int .i64] [.dg 9 x0] a (fun l m n o p=>a<=p->Bel p (D.sl l 0 m n)->∀ a,p<=a->ACalls prog 22 [.int
 .i64] [.sv l 0 m n,.str s1] a (fun l m=>a<=m->Br (decide (o≥0)) (Br (!(decide (l≥0))) (∃ a n,∃ p:Nat,(x0.cell 8)
 = D.sl a 9 n p/\(0<=o/\o<(n.length:Int))/\∀ a,m<=a->ACalls prog 21 [.sl 0] [.dg 9 (List.getD n o.toNat default)] a (fun
 m n p q=>a<=q->Bel q (D.sl m 0 n p)->∀ a,q<=a->ACalls prog 22 [.int .i64] [.sv m 0 n p,.str s1] a (fun
 m n=>a<=n->Br (decide (m≥0)) (∀ a,n<=a->ACalls prog 21 [.sl 0] [.dg 9 x2] a (fun b c d e=>a<=e->Bel e
 (D.sl b 0 c d)->∀ a,e<=a->ACalls prog 259 [Sh.pk,.int .i64,.str,.str,.int .i64,Sh.dc,Sh.dc,Sh.dc,Sh.dc,.row (OfNat.ofNat 30) 9] [.dg
 9 x0,.int .i64 o,.str s1,.sv b 0 c d] a (fun b c d e f g h i j k m=>a<=m->Bel m (D.ag j)->zC
 Q N s1 o (decide (l≥0)) 0 x2 0 (bytes []) (bytes []) 0 0 Option.none [] 0 0 Option.none [] 0 Option.none [] 0 b c d e f g h i j.length
 k j k m))) (zC Q N s1 o (decide (l≥0)) 0 x2 0 (bytes []) (bytes []) 0 0 Option.none [] 0 0 Option.none [] 0 Option.none [] 0
 b c d e f g h i j.length k j k n)))) (zC Q N s1 o (decide (l≥0)) 0 x2 0 (bytes []) (bytes []) 0 0 Option.none
 [] 0 0 Option.none [] 0 Option.none [] 0 b c d e f g h i j.length k j k m)) (zC Q N s1 o (decide (l≥0))
 0 x2 0 (bytes []) (bytes []) 0 0 Option.none [] 0 0 Option.none [] 0 Option.none [] 0 b c d e f g h i j.length k j k m)))))):ACalls prog 249 [.ag 9] [PV.dg 9 x0,PV.str s1,PV.dg 9 x2] N Q:=
  eE (H:=tR) (by kernel_rfl) (by kernel_rfl) h
theorem tB (Q:QT [.pk,.int .i64,.str,.str,.int .i64,.dc,.dc,.dc,.dc,.row 30 9]) (N0:Nat) (n1:Int) (s2:ByteArray) (a3:Option Addr) (e3:List D) (c3:Nat) (a10:Option Addr) (e10:List D) (c10:Nat) (n12 n0_0:Int) (s0_1 s0_2:ByteArray) (n0_3 n0_4:Int) (a0_5:Option Addr) (e0_5:List D) (c0_5:Nat) (n0_6:Int) (a0_7:Option Addr) (e0_7:List D) (c0_7:Nat) (a0_8:Option Addr) (e0_8:List D) (c0_8:Nat) (n1_0:Int) (s1_1 s1_2:ByteArray) (n1_3:Int) (x1_4 x1_5 x1_6 x1_7:D) (m1_8 c1_8:Nat) (r2:List D) (q2:Nat) (N:Nat) (h :
Br (decide (n12<(e10.length:Int))) ((0<=n12/\n12<(e10.length:Int))/\∃ s,List.getD e10 n12.toNat default=D.lit (.string s)/\∀ b,N<=b->ACalls
 prog 22 [.int .i64] [.sv a3 0 e3 c3,.str s] b (fun n d=>b<=d->Br (decide (n<0)) (yG Q N0 n1 s2 a3 e3 c3 a10 e10 c10 (IntKind.i64.wrap
 (n12+1)) n0_0 s0_1 s0_2 n0_3 n0_4 a0_5 e0_5 c0_5 n0_6 a0_7 e0_7 c0_7 a0_8 e0_8 c0_8 n1_0 s1_1 s1_2 n1_3 x1_4 x1_5 x1_6 x1_7 m1_8 c1_8 r2 q2 d) ((m1_8=r2.length
 /\ c1_8=q2)/\∀ a,ApA a r2->∀ b,d<=b->ww b [a]->ACalls prog 76 [.sl 0,.int .i64] [.dg 9 (D.ag [D.lit (.int .i64 n1_0),D.lit (.string s1_1),D.lit
 (.string s1_2),D.lit (.int .i64 n1_3),x1_4,x1_5,x1_6,x1_7,D.sl a 9 r2 c1_8])] b (fun c d e _ f=>b<=f->Off [a] (D.sl c 0 d e)/\(Bel f
 (D.sl c 0 d e)->(0<=n1/\n1<(m1_8:Int)/\(0+n1.toNat:Nat)<r2.length)/\(0+n1.toNat:Nat)<r2.length/\∀ a,f<=a->ACalls prog 21 [.sl 0]
 [.dg 9 (List.getD r2 (0+n1.toNat:Nat) default)] a (fun b c e f=>a<=f->Bel f (D.sl b 0 c e)->∀ a,f<=a->ACalls prog 78 [.row
 (OfNat.ofNat 9) 0] [.sv a3 0 e3 c3,.sv b 0 c e] a (fun b c e=>a<=e->Bel e (D.ag b)->(b.length=b.length/\c=c)/\zB
 b [D.lit (.string s2)] 16/\∀ (a:Nat),((b++[D.lit (.string s2)]).length=(b++[D.lit (.string s2)]).length/\a=a)/\zB (b++[D.lit
 (.string s2)]) d 16/\∀ (a:Nat),((b++[D.lit (.string s2)]++d).length=(b++[D.lit (.string s2)]++d).length/\a=a)/\∀ c,ApA c (b
 ++ [D.lit (.string s2)]++d)->∀ f,e<=f->ww f [c]->ACalls prog 268 [.str] [.sv c 0 (b++[D.lit (.string s2)]++d) a] f (fun a b
 => f<=b->(0<=n1/\n1<(m1_8:Int)/\(0+n1.toNat:Nat)<r2.length)/\(0+n1.toNat:Nat)<r2.length/\(0<=n12/\n12<(e10.length:Int))/\∃ c,
 List.getD e10 n12.toNat default=D.lit (.string c)/\∀ d,b<=d->ACalls prog 155 [.ag 9] [.str a] d (fun x b=>d<=b->Bel b x->∀
 d,b<=d->ACalls prog 249 [.ag 9] [.dg 9 (List.getD r2 (0+n1.toNat:Nat) default),.str c,.dg 9 x] d (fun b c=>d<=c->Bel c b
 -> (0<=n1/\n1<(m1_8:Int)/\(0+n1.toNat:Nat)<r2.length)/\(0+n1.toNat:Nat)<r2.length/\Br (n12==0) (yG Q N0 n1 s2 a3 e3 c3 a10 e10
 c10 (IntKind.i64.wrap (n12+1)) n0_0 s0_1 s0_2 n0_3 n0_4 a0_5 e0_5 c0_5 n0_6 a0_7 e0_7 c0_7 a0_8 e0_8 c0_8 n1_0 a s1_2 n1_3 x1_4 x1_5 x1_6 x1_7 m1_8 c1_8 (List.set
 r2 (0+n1.toNat:Nat) b) q2 c) (yG Q N0 n1 s2 a3 e3 c3 a10 e10 c10 (IntKind.i64.wrap (n12+1)) n0_0 s0_1 s0_2 n0_3 n0_4 a0_5 e0_5 c0_5 n0_6
 a0_7 e0_7 c0_7 a0_8 e0_8 c0_8 n1_0 s1_1 a n1_3 x1_4 x1_5 x1_6 x1_7 m1_8 c1_8 (List.set r2 (0+n1.toNat:Nat) b) q2 c))))))))))) ((m1_8=r2.length/\c1_8
 = q2)/\∀ a,N<=a->Q n1_0 s1_1 s1_2 n1_3 x1_4 x1_5 x1_6 x1_7 r2 c1_8 a)):yG Q N0 n1 s2 a3 e3 c3 a10 e10 c10 n12 n0_0 s0_1 s0_2 n0_3 n0_4 a0_5 e0_5 c0_5 n0_6 a0_7 e0_7 c0_7 a0_8 e0_8 c0_8 n1_0 s1_1 s1_2 n1_3 x1_4 x1_5 x1_6 x1_7 m1_8 c1_8 r2 q2 N:=
  hE (H:=rP) (by kernel_rfl) h
theorem uC (Q:QT [.ag 9]) (N0:Nat) (s1:ByteArray) (n9:Int) (b10:Bool) (n11:Int) (y0:D) (n1_0:Int) (s1_1 s1_2:ByteArray) (n1_3 n1_4:Int) (a1_5:Option Addr) (e1_5:List D) (c1_5:Nat) (n1_6:Int) (a1_7:Option Addr) (e1_7:List D) (c1_7:Nat) (a1_8:Option Addr) (e1_8:List D) (c1_8:Nat) (n2_0:Int) (s2_1 s2_2:ByteArray) (n2_3:Int) (x2_4 x2_5 x2_6 x2_7:D) (m2_8 c2_8:Nat) (r3:List D) (q3:Nat) (N:Nat) (h :
Br (decide (n11<(m2_8:Int))) (Br (bne n11 n9) ((0<=n11/\n11<(m2_8:Int)/\(0+n11.toNat:Nat)<r3.length)/\(0+n11.toNat:Nat)<r3.length/\∀ a,
 N<=a->ACalls prog 249 [.ag 9] [.dg 9 (List.getD r3 (0+n11.toNat:Nat) default),.str s1,.dg 9 y0] a (fun x b=>a<=b->Bel b x->(0<=n11/\n11
 < (m2_8:Int)/\(0+n11.toNat:Nat)<r3.length)/\(0+n11.toNat:Nat)<r3.length/\zC Q N0 s1 n9 b10 (IntKind.i64.wrap (n11+1)) y0 n1_0
 s1_1 s1_2 n1_3 n1_4 a1_5 e1_5 c1_5 n1_6 a1_7 e1_7 c1_7 a1_8 e1_8 c1_8 n2_0 s2_1 s2_2 n2_3 x2_4 x2_5 x2_6 x2_7 m2_8 c2_8 (List.set r3 (0+n11.toNat:Nat) x) q3
 b)) (Br (!b10) ((0<=n11/\n11<(m2_8:Int)/\(0+n11.toNat:Nat)<r3.length)/\(0+n11.toNat:Nat)<r3.length/\∀ a,N<=a->ACalls prog 249 [.ag
 9] [.dg 9 (List.getD r3 (0+n11.toNat:Nat) default),.str s1,.dg 9 y0] a (fun b c=>a<=c->Bel c b->(0<=n11/\n11<(m2_8:Int)/\(0+n11.toNat
 : Nat)<r3.length)/\(0+n11.toNat:Nat)<r3.length/\zC Q N0 s1 n9 b10 (IntKind.i64.wrap (n11+1)) y0 n1_0 s1_1 s1_2 n1_3 n1_4 a1_5 e1_5 c1_5
 n1_6 a1_7 e1_7 c1_7 a1_8 e1_8 c1_8 n2_0 s2_1 s2_2 n2_3 x2_4 x2_5 x2_6 x2_7 m2_8 c2_8 (List.set r3 (0+n11.toNat:Nat) b) q3 c)) (zC Q N0 s1
 n9 b10 (IntKind.i64.wrap (n11+1)) y0 n1_0 s1_1 s1_2 n1_3 n1_4 a1_5 e1_5 c1_5 n1_6 a1_7 e1_7 c1_7 a1_8 e1_8 c1_8 n2_0 s2_1 s2_2 n2_3 x2_4 x2_5 x2_6 x2_7 m2_8 c2_8
 r3 q3 N))) ((m2_8=r3.length/\c2_8=q3)/\(m2_8=r3.length/\c2_8=q3)/\(m2_8=r3.length/\c2_8=q3)/\(m2_8=r3.length/\c2_8=q3)/\∀ a b,N<=b
 -> Fresh N0 b a [D.ag r3,x2_4,x2_5,x2_6,x2_7]->∀ c,b<=c->Q (D.ag [D.lit (.int .i64 n2_0),D.lit (.string s2_1),D.lit (.string s2_2),D.lit (.int
 .i64 n2_3),x2_4,x2_5,x2_6,x2_7,D.sl a 9 r3 q3]) c)):zC Q N0 s1 n9 b10 n11 y0 n1_0 s1_1 s1_2 n1_3 n1_4 a1_5 e1_5 c1_5 n1_6 a1_7 e1_7 c1_7 a1_8 e1_8 c1_8 n2_0 s2_1 s2_2 n2_3 x2_4 x2_5 x2_6 x2_7 m2_8 c2_8 r3 q3 N:=
  hE (H:=tR) (by kernel_rfl) h
end Go.Proofs.YtkdjhkfiolhkiaaGreat
set_option maxRecDepth 100000
namespace Go.Proofs.YtkdjhkfiolhkiaaGreat
open Go Go.Proofs Go.Proofs.Tryz
def zAs:Hint:=⟨[],[],[(8,hs 10 [ec 1 [12],ec 7 [18]])]⟩
def qn:Hint:=⟨[hc 4 [1,2,5]],[],[(6,[en 0,en 1,en 2,en 3,en 4,en 5,en 6,ec 7 [25],ec 8 [24],en 9])]⟩
def sG:Hint:=⟨[hc 6 [1,2,4,5,6],hc 12 [1,2,4,5,9]],[],[(8,hs 7 [ec 5 [37]]),(9,hs 9 [ec 2 [41]]),(17,[en 0,en 1,en 2,en 3,en 4,en 5,en 6,en 7,eh 8,en 9,en 10,en 11,en 12,en 13])]⟩
def zHq:Hint:=⟨[],[],[(1,hs 12 [ec 5 [13]]),(4,hs 7 [ec 3 [21,23]])]⟩
def zDy:Hint:=⟨[],[],[(1,hs 4 [ec 1 [8]])]⟩
def pG:Hint:=⟨[hc 3 [1,2,4,5]],[],[(5,hs 7 [ec 5 [20]]),(6,hs 9 [ec 2 [24]]),(10,[en 0,en 1,en 2,en 3,en 4,en 5,en 6,en 7,en 8,en 9,ec 10 [38,44],eh 11,en 12]),(12,[en 0,en 1,en 2,en 3,en 4,en 5,en 6,en 8,en 9,en 10,en 11,en 12,en 13,ec 7 [51,54],ec 14 [55,61],eh 15,en 16])]⟩
def rR:Hint:=⟨[hc 10 [1,2,4,10]],[],[(3,hs 3 [ec 1 [25]]),(4,hs 8 [ec 1 [29]]),(7,hs 8 [ec 4 [41]]),(12,[en 0,en 1,en 2,en 3,en 4,en 5,en 6,en 13,ec 7 [57],ec 8 [56],en 9,en 10,en 11,en 12,eh 14,en 15,en 16]),(14,hs 8 [ec 3 [65,67]])]⟩
def zFC:Hint:=⟨[],[],[(2,hs 3 [ec 1 [11]]),(3,hs 8 [ec 1 [15]]),(6,hs 10 [ec 7 [36]]),(8,[en 0,en 1,en 2,en 3,en 4,en 5,en 6,ec 7 [45,48],eh 8,en 9]),(10,hs 7 [ec 4 [62]])]⟩
def zED:Hint:=⟨[],[],[(1,hs 2 [ec 1 [13]]),(5,hs 8 [ec 1 [21]]),(8,hs 8 [ec 1 [30]]),(11,hs 13 [ec 4 [42]]),(12,hs 6 [ec 2 [47,48]]),(17,hs 8 [ec 1 [57]])]⟩
def zHy:Hint:=⟨[],[],[]⟩
def zFL:Hint:=⟨[],[],[]⟩
def zEB:Hint:=⟨[],[],[]⟩
def zGO:Hint:=⟨[],[],[]⟩
def zGd:Hint:=⟨[],[],[]⟩
def yS (Q:QT [.bool]) (N0:Nat) (n1 n5:Int) (y0:D) (N:Nat):Prop:=AT prog 184 [.bool] Q N0 .ord (zF prog 184 4) ⟨an 1 (.int .i64 n1::.pb 0 0 0 0::an 2 (.int .i64 n5::an 24 [])),[.vd y0 9],N,none⟩
def z9 (Q:QT [.ag 9,.int .i64]) (N0:Nat) (n4:Int) (m5 c5:Nat) (n6:Int) (y0:D) (n1_0:Int) (s1_1 s1_2:ByteArray) (n1_3 n1_4:Int) (a1_5:Option Addr) (e1_5:List D) (c1_5:Nat) (n1_6:Int) (a1_7:Option Addr) (e1_7:List D) (c1_7:Nat) (a1_8:Option Addr) (e1_8:List D) (c1_8:Nat) (r2:List D) (q2:Nat) (N:Nat):Prop:=AT prog 222 [.ag 9,.int .i64] Q N0 .ord (zF prog 222 6) ⟨an 1 (.pb 0 0 0 0::.pb 1 0 0 0::an 1 (.int .i64 n4::.sb 2 0 0 m5 c5::.int .i64 n6::an 95 [])),[.vd y0 9,.var [.int .i64 n1_0,.str s1_1,.str s1_2,.int .i64 n1_3,.int .i64 n1_4,.sv a1_5 2 e1_5 c1_5,.int .i64 n1_6,.sv a1_7 2 e1_7 c1_7,.sv a1_8 9 e1_8 c1_8],.arr 3 0 r2 q2],N,none⟩
def wR (Q:QT [.ag 9,.int .i64]) (N0:Nat) (n5:Int) (y0:D) (n1_0:Int) (s1_1 s1_2:ByteArray) (n1_3 n1_4:Int) (a1_5:Option Addr) (e1_5:List D) (c1_5:Nat) (n1_6:Int) (a1_7:Option Addr) (e1_7:List D) (c1_7:Nat) (a1_8:Option Addr) (e1_8:List D) (c1_8:Nat) (y2:D) (N:Nat):Prop:=AT prog 223 [.ag 9,.int .i64] Q N0 .ord (zF prog 223 3) ⟨an 1 (.pb 0 0 0 0::.pb 1 0 0 0::an 1 (.pb 2 0 0 0::.int .i64 n5::an 58 [])),[.vd y0 9,.var [.int .i64 n1_0,.str s1_1,.str s1_2,.int .i64 n1_3,.int .i64 n1_4,.sv a1_5 2 e1_5 c1_5,.int .i64 n1_6,.sv a1_7 2 e1_7 c1_7,.sv a1_8 9 e1_8 c1_8],.vd y2 9],N,none⟩
def yA (Q:QT [.ag 9,.int .i64,.bool]) (N0:Nat) (n1 n10:Int) (y0:D) (n1_0:Int) (s1_1 s1_2:ByteArray) (n1_3 n1_4:Int) (a1_5:Option Addr) (e1_5:List D) (c1_5:Nat) (n1_6:Int) (a1_7:Option Addr) (e1_7:List D) (c1_7:Nat) (a1_8:Option Addr) (e1_8:List D) (c1_8:Nat) (N:Nat):Prop:=AT prog 224 [.ag 9,.int .i64,.bool] Q N0 .ord (zF prog 224 10) ⟨an 1 (.int .i64 n1::.pb 0 0 0 0::an 1 (.pb 1 0 0 0::an 5 (.int .i64 n10::an 60 []))),[.vd y0 9,.var [.int .i64 n1_0,.str s1_1,.str s1_2,.int .i64 n1_3,.int .i64 n1_4,.sv a1_5 2 e1_5 c1_5,.int .i64 n1_6,.sv a1_7 2 e1_7 c1_7,.sv a1_8 9 e1_8 c1_8]],N,none⟩
def yT (Q:QT [.ag 9,.int .i64]) (N0:Nat) (n4:Int) (m5 c5:Nat) (n9:Int) (y0:D) (n1_0:Int) (s1_1 s1_2:ByteArray) (n1_3 n1_4:Int) (a1_5:Option Addr) (e1_5:List D) (c1_5:Nat) (n1_6:Int) (a1_7:Option Addr) (e1_7:List D) (c1_7:Nat) (a1_8:Option Addr) (e1_8:List D) (c1_8:Nat) (r2:List D) (q2:Nat) (N:Nat):Prop:=AT prog 222 [.ag 9,.int .i64] Q N0 .ord (zF prog 222 12) ⟨an 1 (.pb 0 0 0 0::.pb 1 0 0 0::an 1 (.int .i64 n4::.sb 2 0 0 m5 c5::an 3 (.int .i64 n9::an 92 []))),[.vd y0 9,.var [.int .i64 n1_0,.str s1_1,.str s1_2,.int .i64 n1_3,.int .i64 n1_4,.sv a1_5 2 e1_5 c1_5,.int .i64 n1_6,.sv a1_7 2 e1_7 c1_7,.sv a1_8 9 e1_8 c1_8],.arr 3 0 r2 q2],N,none⟩
theorem zAw (N:Nat) (x0:D) (Q:QT [.bool]) (h :
Bel N x0->∃ n:Int,(x0.cell 0)=D.lit (.int .i64 n)/\Br (n==2) (∀ a,N<=a->Q true a) (Br (n==3) (∀ a,N<=a->Q true a) (Br (n==6) (∀ a,
 N<=a->Q true a) (Br (n==9) (∀ a,N<=a->Q true a) (Br (n==10) (∀ d,N<=d->ACalls prog 166 [.bool] [.dg 9 x0,.int .i64 0] d (fun b e=>
 d<=e->Br b (∃ a b,∃ c:Nat,(x0.cell 8)=D.sl a 9 b c/\((0:Int)<=(0:Int)/\0<(b.length:Int))/\∀ a,e<=a->ACalls prog 184 [.bool] [.dg
 9 (List.getD b 0 default),.int .i64 1] a (fun b c=>a<=c->∀ a,c<=a->Q b a)) (∀ a,e<=a->Q false a))) (∀ a,N<=a ->
 Q false a)))))):ACalls prog 126 [.bool] [PV.dg 9 x0] N Q:=
  eE (H:=zAs) (by kernel_rfl) (by kernel_rfl) h
theorem zE9 (N:Nat) (x0:D) (n1:Int) (Q:QT [.bool]) (h :
Bel N x0->∃ n:Int,(x0.cell 0)=D.lit (.int .i64 n)/\Br (n==11) (Br (n1==1) (∀ a,N<=a->Q false a) (yS Q N n1 0 x0 N)) (yS
 Q N n1 0 x0 N)):ACalls prog 184 [.bool] [PV.dg 9 x0,PV.int .i64 n1] N Q:=
  eE (H:=qn) (by kernel_rfl) (by kernel_rfl) h
theorem zHI (N:Nat) (x0:D) (Q:QT [.ag 9,.int .i64]) (h :
Bel N x0->∃ s,(x0.cell 1)=D.lit (.string s)/\Br (ByteArray.toList s==ByteArray.toList (bytes [38])) (z9 Q N 3 2 2 0 x0 0 (bytes []) (bytes [])
 0 0 Option.none [] 0 0 Option.none [] 0 Option.none [] 0 [D.lit (.int .i64 0),D.lit (.int .i64 0)] 2 N) (∃ a,(x0.cell 1)=D.lit (.string a)/\Br (ByteArray.toList
 a==ByteArray.toList (bytes [124])) (z9 Q N 3 2 2 0 x0 0 (bytes []) (bytes []) 0 0 Option.none [] 0 0 Option.none [] 0 Option.none [] 0 [D.lit (.int
 .i64 0),D.lit (.int .i64 0)] 2 N) (∃ a,(x0.cell 1)=D.lit (.string a)/\Br (ByteArray.toList a==ByteArray.toList (bytes [33])) (z9 Q N 3 2
 2 0 x0 0 (bytes []) (bytes []) 0 0 Option.none [] 0 0 Option.none [] 0 Option.none [] 0 [D.lit (.int .i64 0),D.lit (.int .i64 0)] 2 N) (z9 Q N 2 2 2
 0 x0 0 (bytes []) (bytes []) 0 0 Option.none [] 0 0 Option.none [] 0 Option.none [] 0 [D.lit (.int .i64 0),D.lit (.int .i64 0)] 2 N)))):ACalls prog 222 [.ag 9,.int .i64] [PV.dg 9 x0] N Q:=
  eE (H:=sG) (by kernel_rfl) (by kernel_rfl) h
theorem zHU (N:Nat) (x0:D) (n1:Int) (Q:QT [.ag 9,.int .i64]) (h :
Bel N x0->∃ a b,∃ c:Nat,(x0.cell 8)=D.sl a 9 b c/\(0<=n1/\n1<(b.length:Int))/\∀ a,N<=a->ACalls prog 178 [.ag 9,.int .i64] [.dg 9 (List.getD
 b n1.toNat default)] a (fun x n b=>a<=b->Bel b x->Br (n==0) (∀ a,b<=a->Q x0 n a) (∀ a,b<=a->ACalls prog 225 [.ag 9] [.dg 9
 x0,.int .i64 n1,.dg 9 x] a (fun b c=>a<=c->Bel c b->∀ a,c<=a->Q b n a)))):ACalls prog 248 [.ag 9,.int .i64] [PV.dg 9 x0,PV.int .i64 n1] N Q:=
  eE (H:=zHq) (by kernel_rfl) (by kernel_rfl) h
theorem zDl (N:Nat) (x0:D) (n1:Int) (x2:D) (Q:QT [.ag 9]) (h :
Bel N x0->Bel N x2->∀ b,N<=b->ACalls prog 124 [Sh.pk,.int .i64,.str,.str,.int .i64,Sh.dc,Sh.dc,Sh.dc,Sh.dc,.row (OfNat.ofNat 30) 9] [.dg 9 x0]
 b (fun n s c d x e f g h i j=>b<=j->Bel j (D.ag h)->(0<=n1/\n1<(h.length:Int)/\(0+n1.toNat:Nat)<h.length)/\(0+n1.toNat
 : Nat)<h.length/\(h.length=(List.set h (0+n1.toNat:Nat) x2).length/\i=i)/\(h.length=(List.set h (0+n1.toNat:Nat) x2).length/\i=i)/\(h.length
 = (List.set h (0+n1.toNat:Nat) x2).length/\i=i)/\(h.length=(List.set h (0+n1.toNat:Nat) x2).length/\i=i)/\(h.length=(List.set h (0+n1.toNat
 : Nat) x2).length/\i=i)/\∀ a b,j<=b->Fresh N b a [D.ag (List.set h (0+n1.toNat:Nat) x2),x,e,f,g]->∀ j,b<=j->Q (D.ag [D.lit
 (.int .i64 n),D.lit (.string s),D.lit (.string c),D.lit (.int .i64 d),x,e,f,g,D.sl a 9 (List.set h (0+n1.toNat:Nat) x2) i]) j)):ACalls prog 225 [.ag 9] [PV.dg 9 x0,PV.int .i64 n1,PV.dg 9 x2] N Q:=
  eE (H:=zDy) (by kernel_rfl) (by kernel_rfl) h
theorem zFz (N:Nat) (x0:D) (Q:QT [.ag 9,.int .i64]) (h :
Bel N x0->∃ a b,∃ c:Nat,(x0.cell 8)=D.sl a 9 b c/\((0:Int)<=(0:Int)/\0<(b.length:Int))/\wR Q N 0 x0 0 (bytes []) (bytes []) 0
 0 Option.none [] 0 0 Option.none [] 0 Option.none [] 0 (List.getD b 0 default) N):ACalls prog 223 [.ag 9,.int .i64] [PV.dg 9 x0] N Q:=
  eE (H:=pG) (by kernel_rfl) (by kernel_rfl) h
theorem zD6 (N:Nat) (x0:D) (n1:Int) (Q:QT [.ag 9,.int .i64,.bool]) (h :
Bel N x0->∃ n:Int,(x0.cell 0)=D.lit (.int .i64 n)/\Br (n==11) (Br (n1==1) (∃ a d,∃ c:Nat,(x0.cell 8)=D.sl a 9 d c/\((0:Int)<=(0:Int)/\0
 < (d.length:Int))/\∀ a,N<=a->ACalls prog 126 [.bool] [.dg 9 (List.getD d 0 default)] a (fun b c=>a<=c->Br (!b) (∀ a,c<=a->ACalls
 prog 248 [.ag 9,.int .i64] [.dg 9 x0,.int .i64 0] a (fun x b c=>a<=c->Bel c x->∀ a,c<=a->Q x b true a)) (∃ a:Int,D.cell (List.getD
 d 0 default) 0=D.lit (.int .i64 a)/\Br (a==10) (∃ a b,∃ e:Nat,D.cell (List.getD d 0 default) 8=D.sl a 9 b e/\((0:Int)<=(0:Int)
 /\ 0<(b.length:Int))/\∀ a,c<=a->ACalls prog 124 [Sh.pk,.int .i64,.str,.str,.int .i64,Sh.dc,Sh.dc,Sh.dc,Sh.dc,.row (OfNat.ofNat 30) 9] [.dg
 9 (List.getD b 0 default)] a (fun b s c d e f g h i j k=>a<=k->Bel k (D.ag i)->(i.length=i.length/\j=j) /\
 (i.length=i.length/\j=j)/\∀ a l,k<=l->Fresh N l a [D.ag i,e,f,g,h]->∀ k,l<=k->Q (D.ag [D.lit (.int .i64 b),
 D.lit (.string s),D.lit (.string c),D.lit (.int .i64 d),e,f,g,h,D.sl a 9 i j]) 6 true k)) (∀ a,c<=a->Q x0 0 true a))))
 (yA Q N n1 0 x0 0 (bytes []) (bytes []) 0 0 Option.none [] 0 0 Option.none [] 0 Option.none [] 0 N)) (yA Q N n1 0 x0 0 (bytes []) (bytes
 []) 0 0 Option.none [] 0 0 Option.none [] 0 Option.none [] 0 N)):ACalls prog 224 [.ag 9,.int .i64,.bool] [PV.dg 9 x0,PV.int .i64 n1] N Q:=
  eE (H:=rR) (by kernel_rfl) (by kernel_rfl) h
theorem zGR (N:Nat) (x0:D) (Q:QT [.ag 9,.int .i64]) (h :
Bel N x0->∃ a d,∃ c:Nat,(x0.cell 8)=D.sl a 9 d c/\((0:Int)<=(0:Int)/\0<(d.length:Int))/\∀ a,N<=a->ACalls prog 126 [.bool] [.dg 9 (List.getD
 d 0 default)] a (fun b c=>a<=c->Br (!b) (∀ a,c<=a->ACalls prog 248 [.ag 9,.int .i64] [.dg 9 x0,.int .i64 0] a (fun x n b=>a<=b
 -> Bel b x->∀ a,b<=a->Q x n a)) (∃ a:Int,(x0.cell 0)=D.lit (.int .i64 a)/\Br (a==5) (∃ a:Int,D.cell (List.getD d 0 default) 0 =
 D.lit (.int .i64 a)/\Br (a==3) (∃ a b,∃ e:Nat,(x0.cell 8)=D.sl a 9 b e/\∃ a:Int,D.cell (List.getD d 0 default) 3=D.lit (.int
 .i64 a)/\(0<=IntKind.i64.wrap (2 - a)/\IntKind.i64.wrap (2 - a)<(b.length:Int))/\∀ d,c<=d->ACalls prog 124 [Sh.pk,.int .i64,.str,.str,
 .int .i64,Sh.dc,Sh.dc,Sh.dc,Sh.dc,.row (OfNat.ofNat 30) 9] [.dg 9 (List.getD b (IntKind.i64.wrap (2 - a)).toNat default)] d (fun a s b c e f
 g h i j k=>d<=k->Bel k (D.ag i)->(i.length=i.length/\j=j)/\(i.length=i.length/\j=j)/\∀ d l,k<=l
 -> Fresh N l d [D.ag i,e,f,g,h]->∀ k,l<=k->Q (D.ag [D.lit (.int .i64 a),D.lit (.string s),D.lit (.string b),D.lit (.int .i64 c),
 e,f,g,h,D.sl d 9 i j]) 2 k)) (∃ a:Int,(x0.cell 0)=D.lit (.int .i64 a)/\Br (a==8) (∃ a b,∃ e:Nat,(x0.cell 8)=D.sl
 a 9 b e/\((0:Int)<=(1:Int)/\1<(b.length:Int))/\∃ a,(x0.cell 1)=D.lit (.string a)/\∀ e,c<=e->ACalls prog 249 [.ag 9] [.dg
 9 (List.getD b 1 default),.str a,.dg 9 (List.getD d 0 default)] e (fun a b=>e<=b->Bel b a->∀ c,b<=c->Q a 5 c)) (∃
 a:Int,(x0.cell 0)=D.lit (.int .i64 a)/\Br (a==12) (∃ a:Int,D.cell (List.getD d 0 default) 0=D.lit (.int .i64 a)/\Br (a==10) (∃ a b,
 ∃ e:Nat,D.cell (List.getD d 0 default) 8=D.sl a 9 b e/\((0:Int)<=(0:Int)/\0<(b.length:Int))/\∀ a,c<=a->ACalls prog 124 [Sh.pk,
 .int .i64,.str,.str,.int .i64,Sh.dc,Sh.dc,Sh.dc,Sh.dc,.row (OfNat.ofNat 30) 9] [.dg 9 (List.getD b 0 default)] a (fun b c d e f g h
 i j k l=>a<=l->Bel l (D.ag j)->(j.length=j.length/\k=k)/\(j.length=j.length/\k=k)/\∀ a m,l <=
 m->Fresh N m a [D.ag j,f,g,h,i]->∀ l,m<=l->Q (D.ag [D.lit (.int .i64 b),D.lit (.string c),D.lit (.string d),D.lit (.int
 .i64 e),f,g,h,i,D.sl a 9 j k]) 7 l)) (∃ a:Int,(x0.cell 0)=D.lit (.int .i64 a)/\Br (a==13) (∃ a:Int,D.cell (List.getD
 d 0 default) 0=D.lit (.int .i64 a)/\Br (a==2) ((1=([List.getD d 0 default]).length/\1=1)/\∀ a,ApA a [List.getD d 0 default]->∀ b,c
 <= b->ww b [a]->ACalls prog 123 [.ag 9] [.int .i64 10,.sv a 9 [List.getD d 0 default] 1] b (fun c d=>b<=d->Off [a] c/\(Bel
 d c->∀ a,d<=a->Q c 8 a))) (∃ a:Int,D.cell (List.getD d 0 default) 0=D.lit (.int .i64 a)/\Br (a==3) ((1=([List.getD d
 0 default]).length/\1=1)/\∀ a,ApA a [List.getD d 0 default]->∀ b,c<=b->ww b [a]->ACalls prog 123 [.ag 9] [.int .i64 10,.sv a 9 [List.getD
 d 0 default] 1] b (fun c d=>b<=d->Off [a] c/\(Bel d c->∀ a,d<=a->Q c 8 a))) (∀ a,c<=a->Q x0 0 a)))
 (∀ a,c<=a->Q x0 0 a))) (∃ a:Int,(x0.cell 0)=D.lit (.int .i64 a)/\Br (a==13) (∃ a:Int,D.cell (List.getD d 0 default) 0=D.lit
 (.int .i64 a)/\Br (a==2) ((1=([List.getD d 0 default]).length/\1=1)/\∀ a,ApA a [List.getD d 0 default]->∀ b,c<=b->ww b [a]
 -> ACalls prog 123 [.ag 9] [.int .i64 10,.sv a 9 [List.getD d 0 default] 1] b (fun c d=>b<=d->Off [a] c/\(Bel d c->∀ a,d
 <= a->Q c 8 a))) (∃ a:Int,D.cell (List.getD d 0 default) 0=D.lit (.int .i64 a)/\Br (a==3) ((1=([List.getD d 0 default]).length/\1
 = 1)/\∀ a,ApA a [List.getD d 0 default]->∀ b,c<=b->ww b [a]->ACalls prog 123 [.ag 9] [.int .i64 10,.sv a 9 [List.getD d 0 default]
 1] b (fun c d=>b<=d->Off [a] c/\(Bel d c->∀ a,d<=a->Q c 8 a))) (∀ a,c<=a->Q x0 0 a))) (∀ a,c
 <= a->Q x0 0 a))))) (∃ a:Int,(x0.cell 0)=D.lit (.int .i64 a)/\Br (a==8) (∃ a b,∃ e:Nat,(x0.cell 8)=D.sl a 9 b e/\((0
 : Int)<=(1:Int)/\1<(b.length:Int))/\∃ a,(x0.cell 1)=D.lit (.string a)/\∀ e,c<=e->ACalls prog 249 [.ag 9] [.dg 9 (List.getD b 1
 default),.str a,.dg 9 (List.getD d 0 default)] e (fun a b=>e<=b->Bel b a->∀ c,b<=c->Q a 5 c)) (∃ a:Int,(x0.cell
 0)=D.lit (.int .i64 a)/\Br (a==12) (∃ a:Int,D.cell (List.getD d 0 default) 0=D.lit (.int .i64 a)/\Br (a==10) (∃ a b,∃ e:Nat,
 D.cell (List.getD d 0 default) 8=D.sl a 9 b e/\((0:Int)<=(0:Int)/\0<(b.length:Int))/\∀ a,c<=a->ACalls prog 124 [Sh.pk,.int
 .i64,.str,.str,.int .i64,Sh.dc,Sh.dc,Sh.dc,Sh.dc,.row (OfNat.ofNat 30) 9] [.dg 9 (List.getD b 0 default)] a (fun b c d e f g h i
 j k l=>a<=l->Bel l (D.ag j)->(j.length=j.length/\k=k)/\(j.length=j.length/\k=k)/\∀ a m,l<=m
 -> Fresh N m a [D.ag j,f,g,h,i]->∀ l,m<=l->Q (D.ag [D.lit (.int .i64 b),D.lit (.string c),D.lit (.string d),D.lit
 (.int .i64 e),f,g,h,i,D.sl a 9 j k]) 7 l)) (∃ a:Int,(x0.cell 0)=D.lit (.int .i64 a)/\Br (a==13) (∃ a:Int,D.cell
 (List.getD d 0 default) 0=D.lit (.int .i64 a)/\Br (a==2) ((1=([List.getD d 0 default]).length/\1=1)/\∀ a,ApA a [List.getD d 0 default]
 -> ∀ b,c<=b->ww b [a]->ACalls prog 123 [.ag 9] [.int .i64 10,.sv a 9 [List.getD d 0 default] 1] b (fun c d=>b<=d->Off
 [a] c/\(Bel d c->∀ a,d<=a->Q c 8 a))) (∃ a:Int,D.cell (List.getD d 0 default) 0=D.lit (.int .i64 a)/\Br (a==3)
 ((1=([List.getD d 0 default]).length/\1=1)/\∀ a,ApA a [List.getD d 0 default]->∀ b,c<=b->ww b [a]->ACalls prog 123 [.ag 9] [.int
 .i64 10,.sv a 9 [List.getD d 0 default] 1] b (fun c d=>b<=d->Off [a] c/\(Bel d c->∀ a,d<=a->Q c 8 a))) (∀
 a,c<=a->Q x0 0 a))) (∀ a,c<=a->Q x0 0 a))) (∃ a:Int,(x0.cell 0)=D.lit (.int .i64 a)/\Br (a==13) (∃ a:Int,D.cell
 (List.getD d 0 default) 0=D.lit (.int .i64 a)/\Br (a==2) ((1=([List.getD d 0 default]).length/\1=1)/\∀ a,ApA a [List.getD d 0 default]
 -> ∀ b,c<=b->ww b [a]->ACalls prog 123 [.ag 9] [.int .i64 10,.sv a 9 [List.getD d 0 default] 1] b (fun c d=>b<=d->Off
 [a] c/\(Bel d c->∀ a,d<=a->Q c 8 a))) (∃ a:Int,D.cell (List.getD d 0 default) 0=D.lit (.int .i64 a)/\Br (a==3)
 ((1=([List.getD d 0 default]).length/\1=1)/\∀ a,ApA a [List.getD d 0 default]->∀ b,c<=b->ww b [a]->ACalls prog 123 [.ag 9] [.int
 .i64 10,.sv a 9 [List.getD d 0 default] 1] b (fun c d=>b<=d->Off [a] c/\(Bel d c->∀ a,d<=a->Q c 8 a))) (∀
 a,c<=a->Q x0 0 a))) (∀ a,c<=a->Q x0 0 a))))))):ACalls prog 226 [.ag 9,.int .i64] [PV.dg 9 x0] N Q:=
  eE (H:=zFC) (by kernel_rfl) (by kernel_rfl) h
theorem zD0 (N:Nat) (x0:D) (Q:QT [.ag 9,.int .i64]) (h :
Bel N x0->∀ d,N<=d->ACalls prog 126 [.bool] [.dg 9 x0] d (fun b e=>d<=e->Br b (∀ a,e<=a->Q x0 0 a) (∃ n:Int,(x0.cell 0)=D.lit
 (.int .i64 n)/\Br (n==4) (∀ a,e<=a->ACalls prog 222 [.ag 9,.int .i64] [.dg 9 x0] a (fun x b c=>a<=c->Bel c x->∀ a,c<=a->Q
 x b a)) (Br (n==7) (∀ a,e<=a->ACalls prog 223 [.ag 9,.int .i64] [.dg 9 x0] a (fun b c d=>a<=d->Bel d b->∀ a,d<=a->Q
 b c a)) (Br (n==10) (∃ a b,∃ c:Nat,(x0.cell 8)=D.sl a 9 b c/\((0:Int)<=(0:Int)/\0<(b.length:Int))/\∀ a,e<=a->ACalls prog
 224 [.ag 9,.int .i64,.bool] [.dg 9 (List.getD b 0 default),.int .i64 1] a (fun b c _ d=>a<=d->Bel d b->∀ a,d<=a->ACalls
 prog 225 [.ag 9] [.dg 9 x0,.int .i64 0,.dg 9 b] a (fun b d=>a<=d->Bel d b->∀ a,d<=a->Q b c a))) (Br (n==5) (∀ a,
 e<=a->ACalls prog 226 [.ag 9,.int .i64] [.dg 9 x0] a (fun b c d=>a<=d->Bel d b->∀ a,d<=a->Q b c a)) (Br (n ==
 8) (∀ a,e<=a->ACalls prog 226 [.ag 9,.int .i64] [.dg 9 x0] a (fun b c d=>a<=d->Bel d b->∀ a,d<=a->Q b c a))
 (Br (n==12) (∀ a,e<=a->ACalls prog 226 [.ag 9,.int .i64] [.dg 9 x0] a (fun b c d=>a<=d->Bel d b->∀ a,d<=a->Q
 b c a)) (Br (n==13) (∀ a,e<=a->ACalls prog 226 [.ag 9,.int .i64] [.dg 9 x0] a (fun b c d=>a<=d->Bel d b->∀ a,d
 <= a->Q b c a)) (∀ a,e<=a->Q x0 0 a)))))))))):ACalls prog 178 [.ag 9,.int .i64] [PV.dg 9 x0] N Q:=
  eE (H:=zED) (by kernel_rfl) (by kernel_rfl) h
theorem zAm (N:Nat) (n0:Int) (Q:QT [.ag 9]) (h :
∀ a,N<=a->Q (D.ag [D.lit (.int .i64 2),D.lit (.string (bytes [])),D.lit (.string (bytes [])),D.lit (.int .i64 n0),D.lit (.int .i64 0),D.sl Option.none
 2 [] 0,D.lit (.int .i64 0),D.sl Option.none 2 [] 0,D.sl Option.none 9 [] 0]) a):ACalls prog 204 [.ag 9] [PV.int .i64 n0] N Q:=
  eE (H:=zHy) (by kernel_rfl) (by kernel_rfl) h
theorem qx (N:Nat) (n0:Int) (Q:QT [.ag 9]) (h :
∀ a,N<=a->Q (D.ag [D.lit (.int .i64 3),D.lit (.string (bytes [])),D.lit (.string (bytes [])),D.lit (.int .i64 n0),D.lit (.int .i64 0),D.sl Option.none
 2 [] 0,D.lit (.int .i64 0),D.sl Option.none 2 [] 0,D.sl Option.none 9 [] 0]) a):ACalls prog 205 [.ag 9] [PV.int .i64 n0] N Q:=
  eE (H:=zFL) (by kernel_rfl) (by kernel_rfl) h
theorem zEA (N:Nat) (s0:ByteArray) (n1 n2:Int) (Q:QT [.int .i64,.bool]) (h :
∀ a,N<=a->ACalls prog 117 [.bool] [.int .i64 n1,.int .i64 0,.int .i64 10006] a (fun b c=>a<=c->Br (!b) (∀ a,c<=a->Q 0 false a) (∀
 a,c<=a->ACalls prog 117 [.bool] [.int .i64 n2,.int .i64 0,.int .i64 10006] a (fun b c=>a<=c->Br (!b) (∀ a,c<=a->Q 0 false a)
 (Br (ByteArray.toList s0==ByteArray.toList (bytes [43])) (∀ a,c<=a->ACalls prog 194 [.int .i64] [.int .i64 (IntKind.i64.wrap (n1+n2))] a (fun n b
 => a<=b->∀ a,b<=a->Q n true a)) (Br (ByteArray.toList s0==ByteArray.toList (bytes [45])) (∀ a,c<=a->ACalls prog 194 [.int .i64] [.int
 .i64 (IntKind.i64.wrap (n1 - n2))] a (fun b c=>a<=c->∀ a,c<=a->Q b true a)) (Br (ByteArray.toList s0==ByteArray.toList (bytes
 [42])) (∀ a,c<=a->ACalls prog 194 [.int .i64] [.int .i64 (IntKind.i64.wrap (n1*n2))] a (fun b c=>a<=c->∀ a,c<=a->Q b
 true a)) (Br (ByteArray.toList s0==ByteArray.toList (bytes [61])) (∀ a,c<=a->ACalls prog 73 [.int .i64] [.bool (n1==n2)] a (fun b c=>
 a<=c->∀ a,c<=a->Q b true a)) (Br (ByteArray.toList s0==ByteArray.toList (bytes [60])) (∀ a,c<=a->ACalls prog 73 [.int .i64]
 [.bool (decide (n1<n2))] a (fun b c=>a<=c->∀ a,c<=a->Q b true a)) (Br (ByteArray.toList s0==ByteArray.toList (bytes [38]))
 (Br (n1==1) (∀ a,c<=a->ACalls prog 73 [.int .i64] [.bool (n2==1)] a (fun b c=>a<=c->∀ a,c<=a->Q b true a)) (∀ a,
 c<=a->ACalls prog 73 [.int .i64] [.bool false] a (fun b c=>a<=c->∀ a,c<=a->Q b true a))) (Br (ByteArray.toList s0==ByteArray.toList
 (bytes [124])) (Br (n1==1) (∀ a,c<=a->ACalls prog 73 [.int .i64] [.bool true] a (fun b c=>a<=c->∀ a,c<=a->Q b true a))
 (∀ a,c<=a->ACalls prog 73 [.int .i64] [.bool (n2==1)] a (fun b c=>a<=c->∀ a,c<=a->Q b true a))) (Br (ByteArray.toList
 s0==ByteArray.toList (bytes [33])) (∀ a,c<=a->ACalls prog 73 [.int .i64] [.bool (n1==0)] a (fun b c=>a<=c->∀ a,c<=a ->
 Q b true a)) (∀ a,c<=a->Q 0 false a))))))))))))):ACalls prog 142 [.int .i64,.bool] [PV.str s0,PV.int .i64 n1,PV.int .i64 n2] N Q:=
  eE (H:=zEB) (by kernel_rfl) (by kernel_rfl) h
theorem zGC (N:Nat) (n0:Int) (Q:QT [.int .i64]) (h :
(10007:Int)≠(0:Int)/\Br (decide (Int.tmod n0 10007<0)) (∀ a,N<=a->Q (IntKind.i64.wrap (Int.tmod n0 10007+10007)) a) (∀ a,N<=a->Q (Int.tmod
 n0 10007) a)):ACalls prog 194 [.int .i64] [PV.int .i64 n0] N Q:=
  eE (H:=zGO) (by kernel_rfl) (by kernel_rfl) h
theorem zHp (N:Nat) (b0:Bool) (Q:QT [.int .i64]) (h :
Br b0 (∀ a,N<=a->Q 1 a) (∀ a,N<=a->Q 0 a)):ACalls prog 73 [.int .i64] [PV.bool b0] N Q:=
 eE (H:=zGd) (by kernel_rfl) (by kernel_rfl) h
theorem sY (Q:QT [.bool]) (N0:Nat) (n1 n5:Int) (y0:D) (N:Nat) (h :
∃ a d,∃ c:Nat,(y0.cell 8)=D.sl a 9 d c/\Br (decide (n5<(d.length:Int))) (∃ a c,∃ d:Nat,(y0.cell 8)=D.sl a 9 c d/\(0<=n5/\n5
 < (c.length:Int))/\∀ a,N<=a->ACalls prog 215 [.int .i64] [.dg 9 y0,.int .i64 n1] a (fun n d=>a<=d->∀ a,d<=a->ACalls prog 184 [.bool]
 [.dg 9 (List.getD c n5.toNat default),.int .i64 n] a (fun b c=>a<=c->Br (!b) (∀ a,c<=a->Q false a) (yS Q N0 n1 (IntKind.i64.wrap
 (n5+1)) y0 c)))) (∀ a,N<=a->Q true a)):yS Q N0 n1 n5 y0 N:=
  hE (H:=qn) (by kernel_rfl) h
theorem rh (Q:QT [.ag 9,.int .i64]) (N0:Nat) (n4:Int) (m5 c5:Nat) (n6:Int) (y0:D) (n1_0:Int) (s1_1 s1_2:ByteArray) (n1_3 n1_4:Int) (a1_5:Option Addr) (e1_5:List D) (c1_5:Nat) (n1_6:Int) (a1_7:Option Addr) (e1_7:List D) (c1_7:Nat) (a1_8:Option Addr) (e1_8:List D) (c1_8:Nat) (r2:List D) (q2:Nat) (N:Nat) (h :
∃ a d,∃ c:Nat,(y0.cell 8)=D.sl a 9 d c/\Br (decide (n6<(d.length:Int))) (∃ a c,∃ d:Nat,(y0.cell 8)=D.sl a 9 c d/\(0<=n6/\n6
 < (c.length:Int))/\∀ a,N<=a->ACalls prog 126 [.bool] [.dg 9 (List.getD c n6.toNat default)] a (fun b c=>a<=c->Br (!b) (∀ a,c<=a
 -> ACalls prog 248 [.ag 9,.int .i64] [.dg 9 y0,.int .i64 n6] a (fun x n b=>a<=b->Bel b x->∀ a,b<=a->Q x n a)) (z9 Q N0 n4
 m5 c5 (IntKind.i64.wrap (n6+1)) y0 n1_0 s1_1 s1_2 n1_3 n1_4 a1_5 e1_5 c1_5 n1_6 a1_7 e1_7 c1_7 a1_8 e1_8 c1_8 r2 q2 c))) (yT Q N0 n4 m5 c5 0 y0
 n1_0 s1_1 s1_2 n1_3 n1_4 a1_5 e1_5 c1_5 n1_6 a1_7 e1_7 c1_7 a1_8 e1_8 c1_8 r2 q2 N)):z9 Q N0 n4 m5 c5 n6 y0 n1_0 s1_1 s1_2 n1_3 n1_4 a1_5 e1_5 c1_5 n1_6 a1_7 e1_7 c1_7 a1_8 e1_8 c1_8 r2 q2 N:=
  hE (H:=sG) (by kernel_rfl) h
theorem sE (Q:QT [.ag 9,.int .i64]) (N0:Nat) (n5:Int) (y0:D) (n1_0:Int) (s1_1 s1_2:ByteArray) (n1_3 n1_4:Int) (a1_5:Option Addr) (e1_5:List D) (c1_5:Nat) (n1_6:Int) (a1_7:Option Addr) (e1_7:List D) (c1_7:Nat) (a1_8:Option Addr) (e1_8:List D) (c1_8:Nat) (y2:D) (N:Nat) (h :
Br (decide (n5<2)) (∃ a d,∃ c:Nat,(y0.cell 8)=D.sl a 9 d c/\(0<=n5/\n5<(d.length:Int))/\∀ a,N<=a->ACalls prog 126 [.bool] [.dg 9 (List.getD
 d n5.toNat default)] a (fun b c=>a<=c->Br (!b) (∀ a,c<=a->ACalls prog 248 [.ag 9,.int .i64] [.dg 9 y0,.int .i64 n5] a (fun x n b=>a
 <= b->Bel b x->∀ a,b<=a->Q x n a)) (wR Q N0 (IntKind.i64.wrap (n5+1)) y0 n1_0 s1_1 s1_2 n1_3 n1_4 a1_5 e1_5 c1_5 n1_6 a1_7 e1_7 c1_7
 a1_8 e1_8 c1_8 y2 c))) (∃ a:Int,(y2.cell 0)=D.lit (.int .i64 a)/\Br (a==6) (∃ a b,∃ c:Nat,(y2.cell 8)=D.sl a 9 b c/\((0:Int)
 <= (0:Int)/\0<(b.length:Int))/\∃ s,(y2.cell 1)=D.lit (.string s)/\∃ a c,∃ d:Nat,(y0.cell 8)=D.sl a 9 c d/\((0:Int)<=(1:Int)
 /\ 1<(c.length:Int))/\∀ a,N<=a->ACalls prog 249 [.ag 9] [.dg 9 (List.getD b 0 default),.str s,.dg 9 (List.getD c 1 default)] a (fun b c
 => a<=c->Bel c b->∀ a,c<=a->Q b 3 a)) (Br (a==9) (∃ a b,∃ c:Nat,(y2.cell 8)=D.sl a 9 b c/\((0:Int)<=(0:Int)
 /\ 0<(b.length:Int))/\∃ a,(y2.cell 1)=D.lit (.string a)/\∃ c,(y2.cell 2)=D.lit (.string c)/\∃ d e,∃ f:Nat,(y0.cell 8)=D.sl d
 9 e f/\((0:Int)<=(1:Int)/\1<(e.length:Int))/\∀ d,N<=d->ACalls prog 249 [.ag 9] [.dg 9 (List.getD b 0 default),.str a,.dg 9 y2]
 d (fun a b=>d<=b->Bel b a->∀ d,b<=d->ACalls prog 249 [.ag 9] [.dg 9 a,.str c,.dg 9 (List.getD e 1 default)] d (fun
 a b=>d<=b->Bel b a->∀ c,b<=c->Q a 4 c))) (∀ a,N<=a->Q y0 0 a)))):wR Q N0 n5 y0 n1_0 s1_1 s1_2 n1_3 n1_4 a1_5 e1_5 c1_5 n1_6 a1_7 e1_7 c1_7 a1_8 e1_8 c1_8 y2 N:=
  hE (H:=pG) (by kernel_rfl) h
theorem ua (Q:QT [.ag 9,.int .i64,.bool]) (N0:Nat) (n1 n10:Int) (y0:D) (n1_0:Int) (s1_1 s1_2:ByteArray) (n1_3 n1_4:Int) (a1_5:Option Addr) (e1_5:List D) (c1_5:Nat) (n1_6:Int) (a1_7:Option Addr) (e1_7:List D) (c1_7:Nat) (a1_8:Option Addr) (e1_8:List D) (c1_8:Nat) (N:Nat) (h :
∃ a d,∃ c:Nat,(y0.cell 8)=D.sl a 9 d c/\Br (decide (n10<(d.length:Int))) (∃ a c,∃ d:Nat,(y0.cell 8)=D.sl a 9 c d/\(0<=n10/\n10
 < (c.length:Int))/\∀ a,N<=a->ACalls prog 215 [.int .i64] [.dg 9 y0,.int .i64 n1] a (fun n d=>a<=d->∀ a,d<=a->ACalls prog 224 [.ag
 9,.int .i64,.bool] [.dg 9 (List.getD c n10.toNat default),.int .i64 n] a (fun x b c d=>a<=d->Bel d x->Br c (∀ a,d<=a->ACalls prog
 225 [.ag 9] [.dg 9 y0,.int .i64 n10,.dg 9 x] a (fun c d=>a<=d->Bel d c->∀ a,d<=a->Q c b true a)) (yA Q N0 n1 (IntKind.i64.wrap
 (n10+1)) y0 n1_0 s1_1 s1_2 n1_3 n1_4 a1_5 e1_5 c1_5 n1_6 a1_7 e1_7 c1_7 a1_8 e1_8 c1_8 d)))) (∀ a,N<=a->Q y0 0 false a)):yA Q N0 n1 n10 y0 n1_0 s1_1 s1_2 n1_3 n1_4 a1_5 e1_5 c1_5 n1_6 a1_7 e1_7 c1_7 a1_8 e1_8 c1_8 N:=
  hE (H:=rR) (by kernel_rfl) h
theorem te (Q:QT [.ag 9,.int .i64]) (N0:Nat) (n4:Int) (m5 c5:Nat) (n9:Int) (y0:D) (n1_0:Int) (s1_1 s1_2:ByteArray) (n1_3 n1_4:Int) (a1_5:Option Addr) (e1_5:List D) (c1_5:Nat) (n1_6:Int) (a1_7:Option Addr) (e1_7:List D) (c1_7:Nat) (a1_8:Option Addr) (e1_8:List D) (c1_8:Nat) (r2:List D) (q2:Nat) (N:Nat) (h :
∃ a d,∃ c:Nat,(y0.cell 8)=D.sl a 9 d c/\Br (decide (n9<(d.length:Int))) (∃ a b,∃ c:Nat,(y0.cell 8)=D.sl a 9 b c/\(0<=n9/\n9
 < (b.length:Int))/\∃ n:Int,(if 0=0 then D.cell (List.getD b n9.toNat default) 0 else D.sub (List.getD b n9.toNat default) 0 0)=D.lit (.int .i64
 n)/\Br (bne n n4) (∀ a,N<=a->Q y0 0 a) (∃ a b,∃ c:Nat,(y0.cell 8)=D.sl a 9 b c/\(0<=n9/\n9<(b.length:Int))/\∃ a:Int,
 (if 0=0 then D.cell (List.getD b n9.toNat default) 3 else D.sub (List.getD b n9.toNat default) 3 0)=D.lit (.int .i64 a)/\(0<=n9/\n9<(m5:Int) /\
 (0+n9.toNat:Nat)<r2.length)/\(0+n9.toNat:Nat)<r2.length/\yT Q N0 n4 m5 c5 (IntKind.i64.wrap (n9+1)) y0 n1_0 s1_1 s1_2 n1_3 n1_4 a1_5
 e1_5 c1_5 n1_6 a1_7 e1_7 c1_7 a1_8 e1_8 c1_8 (List.set r2 (0+n9.toNat:Nat) (D.lit (.int .i64 a))) q2 N)) (∃ s,(y0.cell 1)=D.lit (.string s)/\((0:Int)
 <= (0:Int)/\0<(m5:Int)/\0<r2.length)/\0<r2.length/\∃ a:Int,List.getD r2 0 default=D.lit (.int .i64 a)/\((0:Int)<=(1:Int)/\1<(m5 :
 Int)/\1<r2.length)/\1<r2.length/\∃ c:Int,List.getD r2 1 default=D.lit (.int .i64 c)/\∀ d,N<=d->ACalls prog 142 [.int .i64,.bool] [.str s,
 .int .i64 a,.int .i64 c] d (fun a _ b=>d<=b->∃ c,(y0.cell 1)=D.lit (.string c)/\Br (ByteArray.toList c==ByteArray.toList (bytes [43]))
 (∀ c,b<=c->ACalls prog 204 [.ag 9] [.int .i64 a] c (fun x a=>c<=a->Bel a x->∀ b,a<=b->Q x 1 b)) (∃ c,(y0.cell 1)=D.lit
 (.string c)/\Br (ByteArray.toList c==ByteArray.toList (bytes [45])) (∀ c,b<=c->ACalls prog 204 [.ag 9] [.int .i64 a] c (fun a b=>c <=
 b->Bel b a->∀ c,b<=c->Q a 1 c)) (∃ c,(y0.cell 1)=D.lit (.string c)/\Br (ByteArray.toList c==ByteArray.toList (bytes [42])) (∀ c,
 b<=c->ACalls prog 204 [.ag 9] [.int .i64 a] c (fun a b=>c<=b->Bel b a->∀ c,b<=c->Q a 1 c)) (∀ c,b<=c
 -> ACalls prog 205 [.ag 9] [.int .i64 a] c (fun a b=>c<=b->Bel b a->∀ c,b<=c->Q a 1 c))))))):yT Q N0 n4 m5 c5 n9 y0 n1_0 s1_1 s1_2 n1_3 n1_4 a1_5 e1_5 c1_5 n1_6 a1_7 e1_7 c1_7 a1_8 e1_8 c1_8 r2 q2 N:=
  hE (H:=sG) (by kernel_rfl) h
end Go.Proofs.YtkdjhkfiolhkiaaGreat
