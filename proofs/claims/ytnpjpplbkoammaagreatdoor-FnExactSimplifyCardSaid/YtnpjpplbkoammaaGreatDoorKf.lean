/- Printed by gen.py: what the functions come to. -/
import Derived.Test.YtnpjpplbkoammaaGreatDoorJh
set_option linter.unusedVariables false
set_option maxRecDepth 100000
namespace Go.Proofs.YtnpjpplbkoammaaGreatDoor
open Go Go.Proofs Go.Proofs.Tryz
def zDz:Hint:=⟨[],[],[(1,hs 7 [ec 1 [16]]),(2,hs 14 [ec 6 [25],ec 10 [20,26,28,29]]),(3,hs 4 [ec 1 [33]]),(4,[en 0,en 1,en 2,en 3,en 4,en 5,en 6,en 7,en 8,en 9,eh 10,ec 11 [42,45],en 12,eh 13])]⟩
def wr:Hint:=⟨[hc 10 [3,4,5,6,7,8,9,39,40,41],hc 19 [4,5,6,8,9,12,75,76,77]],[],[(3,hs 3 [ec 1 [22]]),(4,hs 3 [ec 1 [24]]),(5,hs 7 [ec 1 [27]]),(7,hs 4 [ec 2 [33]]),(8,hs 4 [ec 1 [36]]),(13,[en 0,en 1,en 2,en 3,en 4,en 5,ec 6 [52,54],en 7,eh 8]),(15,[en 0,en 1,eh 2,en 3,en 4,en 5,en 6,en 7,en 8,en 10,ec 9 [66],eh 11,en 12,en 13]),(17,hs 3 [ec 1 [73]]),(22,hs 7 [ec 5 [84]]),(24,[en 0,en 1,en 2,en 3,en 4,en 5,en 6,en 7,en 8,en 9,ec 10 [98,100],en 11,eh 12])]⟩
def pL:Hint:=⟨[],[],[(1,hs 5 [ec 3 [5,7]])]⟩
def rp:Hint:=⟨[hc 4 [1,2,3,8,9,10,12]],[],[(1,hs 4 [ec 1 [16]]),(8,hs 15 [ec 6 [46]]),(9,[en 0,en 1,en 2,en 3,en 4,en 5,en 6,en 7,en 8,en 9,en 10,en 11,en 12,eh 13,ec 14 [62,68],en 15,eh 16])]⟩
def tF:Hint:=⟨[hc 9 [1,5,6,7,9,10,11]],[],[(2,hs 3 [ec 1 [21]]),(3,hs 4 [ec 1 [23]]),(6,hs 17 [ec 12 [45]]),(7,[en 0,en 1,en 2,en 3,ec 4 [54],ec 5 [51],eh 6]),(12,[en 0,en 1,en 2,en 3,en 4,en 5,en 6,en 7,en 8,en 9,ec 10 [78,80],en 11,eh 12])]⟩
def vh:Hint:=⟨[hc 3 [1,2,4,5,10,11,12] [(5,34,9)]],[],[(5,hs 7 [{ i:=3,hard:=true,cl:=[18],fs:=[5,18] },{ i:=4,hard:=true,cl:=[19],fs:=[5,19] }]),(7,hs 4 [{ i:=2,hard:=true,cl:=[23],fs:=[5,23] }])]⟩
def zx (Q:QT [.ag 9]) (N0:Nat) (a7:Option Addr) (e7:List D) (c7:Nat) (n8:Int) (a39:Option Addr) (e39:List D) (c39:Nat) (n40 n41:Int) (y0:D) (s1_0:ByteArray) (y2:D) (n3_0:Int) (s3_1 s3_2:ByteArray) (n3_3 n3_4:Int) (a3_5:Option Addr) (e3_5:List D) (c3_5:Nat) (n3_6:Int) (a3_7:Option Addr) (e3_7:List D) (c3_7:Nat) (a3_8:Option Addr) (e3_8:List D) (c3_8:Nat) (n4_0:Int) (s4_1 s4_2:ByteArray) (n4_3:Int) (x4_4 x4_5 x4_6 x4_7:D) (m4_8 c4_8:Nat) (r5:List D) (q5:Nat) (N:Nat):Prop:=AT prog 112 [.ag 9] Q N0 .ord (zF prog 112 10) ⟨an 3 (.pb 0 0 0 0::.pb 1 0 0 0::.pb 2 0 0 0::.pb 3 0 0 0::.sv a7 0 e7 c7::.int .i64 n8::.pb 4 0 0 0::an 29 (.sv a39 9 e39 c39::.int .i64 n40::.int .i64 n41::an 62 [])),[.vd y0 9,.var [.str s1_0],.vd y2 9,.var [.int .i64 n3_0,.str s3_1,.str s3_2,.int .i64 n3_3,.int .i64 n3_4,.sv a3_5 2 e3_5 c3_5,.int .i64 n3_6,.sv a3_7 2 e3_7 c3_7,.sv a3_8 9 e3_8 c3_8],.var [.int .i64 n4_0,.str s4_1,.str s4_2,.int .i64 n4_3,.dc x4_4,.dc x4_5,.dc x4_6,.dc x4_7,.sb 5 9 0 m4_8 c4_8],.arr 34 9 r5 q5],N,none⟩
def yE (Q:QT [.pk,.int .i64,.str,.str,.int .i64,.dc,.dc,.dc,.dc,.row 34 9]) (N0:Nat) (n1:Int) (s2:ByteArray) (a3:Option Addr) (e3:List D) (c3:Nat) (a10:Option Addr) (e10:List D) (c10:Nat) (n12 n0_0:Int) (s0_1 s0_2:ByteArray) (n0_3 n0_4:Int) (a0_5:Option Addr) (e0_5:List D) (c0_5:Nat) (n0_6:Int) (a0_7:Option Addr) (e0_7:List D) (c0_7:Nat) (a0_8:Option Addr) (e0_8:List D) (c0_8:Nat) (n1_0:Int) (s1_1 s1_2:ByteArray) (n1_3:Int) (x1_4 x1_5 x1_6 x1_7:D) (m1_8 c1_8:Nat) (r2:List D) (q2:Nat) (N:Nat):Prop:=AT prog 140 [.pk,.int .i64,.str,.str,.int .i64,.dc,.dc,.dc,.dc,.row 34 9] Q N0 .ord (zF prog 140 4) ⟨an 1 (.int .i64 n1::.str s2::.sv a3 0 e3 c3::an 4 (.pb 0 0 0 0::.pb 1 0 0 0::.sv a10 0 e10 c10::an 1 (.int .i64 n12::an 65 []))),[.var [.int .i64 n0_0,.str s0_1,.str s0_2,.int .i64 n0_3,.int .i64 n0_4,.sv a0_5 2 e0_5 c0_5,.int .i64 n0_6,.sv a0_7 2 e0_7 c0_7,.sv a0_8 9 e0_8 c0_8],.var [.int .i64 n1_0,.str s1_1,.str s1_2,.int .i64 n1_3,.dc x1_4,.dc x1_5,.dc x1_6,.dc x1_7,.sb 2 9 0 m1_8 c1_8],.arr 34 9 r2 q2],N,none⟩
def zE (Q:QT [.ag 9]) (N0:Nat) (s1:ByteArray) (n9:Int) (b10:Bool) (n11:Int) (y0:D) (n1_0:Int) (s1_1 s1_2:ByteArray) (n1_3 n1_4:Int) (a1_5:Option Addr) (e1_5:List D) (c1_5:Nat) (n1_6:Int) (a1_7:Option Addr) (e1_7:List D) (c1_7:Nat) (a1_8:Option Addr) (e1_8:List D) (c1_8:Nat) (n2_0:Int) (s2_1 s2_2:ByteArray) (n2_3:Int) (x2_4 x2_5 x2_6 x2_7:D) (m2_8 c2_8:Nat) (r3:List D) (q3:Nat) (N:Nat):Prop:=AT prog 105 [.ag 9] Q N0 .ord (zF prog 105 9) ⟨an 1 (.str s1::an 3 (.pb 0 0 0 0::.pb 1 0 0 0::.pb 2 0 0 0::an 1 (.int .i64 n9::.bool b10::.int .i64 n11::an 72 []))),[.vd y0 9,.var [.int .i64 n1_0,.str s1_1,.str s1_2,.int .i64 n1_3,.int .i64 n1_4,.sv a1_5 2 e1_5 c1_5,.int .i64 n1_6,.sv a1_7 2 e1_7 c1_7,.sv a1_8 9 e1_8 c1_8],.var [.int .i64 n2_0,.str s2_1,.str s2_2,.int .i64 n2_3,.dc x2_4,.dc x2_5,.dc x2_6,.dc x2_7,.sb 3 9 0 m2_8 c2_8],.arr 34 9 r3 q3],N,none⟩
def yL (Q:QT [.pk,.int .i64,.str,.str,.int .i64,.dc,.dc,.dc,.dc,.row 34 9]) (N0:Nat) (a1_0:Addr) (x1_0_:D) (a1_1:Addr) (x1_1_:D) (m5 c5:Nat) (a10:Option Addr) (e10:List D) (c10:Nat) (n11 n12:Int) (y0:D) (n1_0:Int) (s1_1 s1_2:ByteArray) (n1_3 n1_4:Int) (a1_5:Option Addr) (e1_5:List D) (c1_5:Nat) (n1_6:Int) (a1_7:Option Addr) (e1_7:List D) (c1_7:Nat) (a1_8:Option Addr) (e1_8:List D) (c1_8:Nat) (r2:List D) (q2:Nat) (N:Nat):Prop:=AT prog 75 [.pk,.int .i64,.str,.str,.int .i64,.dc,.dc,.dc,.dc,.row 34 9] Q N0 .ord (zF prog 75 3) ⟨an 1 (.fn 150 [.pd a1_0 0 x1_0_,.pd a1_1 9 x1_1_]::.pb 0 0 0 0::an 1 (.pb 1 0 0 0::.sb 2 9 0 m5 c5::an 4 (.sv a10 9 e10 c10::.int .i64 n11::.int .i64 n12::an 13 []))),[.vd y0 9,.var [.int .i64 n1_0,.str s1_1,.str s1_2,.int .i64 n1_3,.int .i64 n1_4,.sv a1_5 2 e1_5 c1_5,.int .i64 n1_6,.sv a1_7 2 e1_7 c1_7,.sv a1_8 9 e1_8 c1_8],.arr 34 9 r2 q2],N,none⟩
def zu (Q:QT [.ag 9]) (N0:Nat) (n8:Int) (m12 c12:Nat) (a75:Option Addr) (e75:List D) (c75:Nat) (n76 n77:Int) (s0_0:ByteArray) (y1:D) (n2_0:Int) (s2_1 s2_2:ByteArray) (n2_3 n2_4:Int) (a2_5:Option Addr) (e2_5:List D) (c2_5:Nat) (n2_6:Int) (a2_7:Option Addr) (e2_7:List D) (c2_7:Nat) (a2_8:Option Addr) (e2_8:List D) (c2_8:Nat) (n3_0:Int) (s3_1 s3_2:ByteArray) (n3_3:Int) (x3_4 x3_5 x3_6 x3_7:D) (m3_8 c3_8:Nat) (r4:List D) (q4:Nat) (r5:List D) (q5:Nat) (N:Nat):Prop:=AT prog 112 [.ag 9] Q N0 .ord (zF prog 112 19) ⟨an 4 (.pb 0 0 0 0::.pb 1 0 0 0::.pb 2 0 0 0::an 1 (.int .i64 n8::.pb 3 0 0 0::an 2 (.sb 4 0 0 m12 c12::an 62 (.sv a75 0 e75 c75::.int .i64 n76::.int .i64 n77::an 26 [])))),[.var [.str s0_0],.vd y1 9,.var [.int .i64 n2_0,.str s2_1,.str s2_2,.int .i64 n2_3,.int .i64 n2_4,.sv a2_5 2 e2_5 c2_5,.int .i64 n2_6,.sv a2_7 2 e2_7 c2_7,.sv a2_8 9 e2_8 c2_8],.var [.int .i64 n3_0,.str s3_1,.str s3_2,.int .i64 n3_3,.dc x3_4,.dc x3_5,.dc x3_6,.dc x3_7,.sb 5 9 0 m3_8 c3_8],.arr 9 0 r4 q4,.arr 34 9 r5 q5],N,none⟩
theorem zDU (N:Nat) (x0:D) (n1:Int) (s2:ByteArray) (a3:Option Addr) (e3:List D) (c3:Nat) (s4:ByteArray) (Q:QT [.pk,.int .i64,.str,.str,.int .i64,.dc,.dc,.dc,.dc,.row 34 9]) (h :
Bel N x0→Bel N (D.sl a3 0 e3 c3)→∀ b,N≤b→ACalls prog 149 [.sl 0,.int .i64] [.dg 9 x0] b (fun a c d _ e=>b≤e→Bel e (D.sl a 0 c d)
 → ∃ b f,∃ g:Nat,(x0.cell 8)=D.sl b 9 f g∧(0≤n1∧n1<(f.length:Int))∧∀ b,e≤b→ACalls prog 132 [.row (OfNat.ofNat 9) 0]
 [.dg 9 (List.getD f n1.toNat default)] b (fun e f g=>b≤g→Bel g (D.ag e)→(e.length=e.length∧f=f)∧∀ b h,g≤h
 → Fresh N h b [D.ag e]→(1=([D.lit (.string s4)]).length∧1=1)∧∀ g i,h≤i→Fresh N i g [D.ag [D.lit (.string s4)]]→(4=([D.sl a3
 0 e3 c3,D.sl b 0 e f,D.sl g 0 [D.lit (.string s4)] 1,D.sl a 0 c d]).length∧4=4)∧∀ h,ApA h [D.sl a3 0 e3 c3,D.sl b 0 e f,D.sl g
 0 [D.lit (.string s4)] 1,D.sl a 0 c d]→∀ j,i≤j→tL j [h]→ACalls prog 183 [.sl 0] [.sv h 0 [D.sl a3 0 e3 c3,D.sl b 0 e f,D.sl g
 0 [D.lit (.string s4)] 1,D.sl a 0 c d] 4] j (fun a b c d=>j≤d→Off [h] (D.sl a 0 b c)∧(Bel d (D.sl a 0 b c)→∀ e,d
 ≤ e→ACalls prog 182 [.str] [.sv a 0 b c] e (fun s a=>e≤a→∀ b,a≤b→ACalls prog 40 [Sh.pk,.int .i64,.str,.str,.int .i64,
 Sh.dc,Sh.dc,Sh.dc,Sh.dc,.row (OfNat.ofNat 34) 9] [.dg 9 x0] b (fun a c d e x f g h i j k=>b≤k→Bel k (D.ag i)→∃ b
 l,∃ m:Nat,(x0.cell 8)=D.sl b 9 l m∧(0≤n1∧n1<(l.length:Int))∧∀ b,k≤b→ACalls prog 184 [.ag 9] [.str s] b (fun k
 m=>b≤m→Bel m k→∀ b,m≤b→ACalls prog 112 [.ag 9] [.dg 9 (List.getD l n1.toNat default),.str s2,.dg 9 k] b (fun k l
 => b≤l→Bel l k→(0≤n1∧n1<(i.length:Int)∧(0+n1.toNat:Nat)<i.length)∧(0+n1.toNat:Nat)<i.length∧∃ b,(x0.cell 1)
 = D.lit (.string b)∧Br (ByteArray.toList b==ByteArray.toList s2) ((i.length=(List.set i (0+n1.toNat:Nat) k).length∧j=j)∧∀ b,l
 ≤ b→Q a s d e x f g h (List.set i (0+n1.toNat:Nat) k) j b) ((i.length=(List.set i (0+n1.toNat:Nat) k).length∧j =
 j)∧∀ b,l≤b→Q a c s e x f g h (List.set i (0+n1.toNat:Nat) k) j b)))))))))):ACalls prog 151 [.pk,.int .i64,.str,.str,.int .i64,.dc,.dc,.dc,.dc,.row 34 9] [PV.dg 9 x0,PV.int .i64 n1,PV.str s2,PV.sv a3 0 e3 c3,PV.str s4] N Q:=
  eE (H:=zDz) (by kernel_rfl) (by kernel_rfl) h
theorem zA1 (N:Nat) (x0:D) (s1:ByteArray) (x2:D) (Q:QT [.ag 9]) (h :
Bel N x0→Bel N x2→∃ n:Int,(x0.cell 0)=D.lit (.int .i64 n)∧Br (n==1) (∃ s,(x0.cell 1)=D.lit (.string s)∧Br (ByteArray.toList s==ByteArray.toList
 s1) (∀ b,N≤b→ACalls prog 40 [Sh.pk,.int .i64,.str,.str,.int .i64,Sh.dc,Sh.dc,Sh.dc,Sh.dc,.row (OfNat.ofNat 34) 9] [.dg 9 x2] b (fun c d e
 f x g h i j k l=>b≤l→Bel l (D.ag j)→(j.length=j.length∧k=k)∧(j.length=j.length∧k=k)∧∀ a b,l≤b→Fresh N b
 a [D.ag j,x,g,h,i]→∀ l,b≤l→Q (D.ag [D.lit (.int .i64 c),D.lit (.string d),D.lit (.string e),D.lit (.int .i64 f),x,g,h,
 i,D.sl a 9 j k]) l)) (∀ a,N≤a→ACalls prog 40 [Sh.pk,.int .i64,.str,.str,.int .i64,Sh.dc,Sh.dc,Sh.dc,Sh.dc,.row (OfNat.ofNat 34) 9] [.dg 9
 x0] a (fun b c d e f g h i j k l=>a≤l→Bel l (D.ag j)→(j.length=j.length∧k=k)∧(j.length=j.length
 ∧ k=k)∧∀ a m,l≤m→Fresh N m a [D.ag j,f,g,h,i]→∀ l,m≤l→Q (D.ag [D.lit (.int .i64 b),D.lit (.string c),D.lit
 (.string d),D.lit (.int .i64 e),f,g,h,i,D.sl a 9 j k]) l))) (∀ a,N≤a→ACalls prog 149 [.sl 0,.int .i64] [.dg 9 x0] a (fun b
 c d e f=>a≤f→Bel f (D.sl b 0 c d)→Br (decide (e<0)) (∀ a,ApA (Option.some a) [D.lit (.string s1)]→Off [Option.some a]
 x0→∀ b,ApA (Option.some b) [x2]→Off [Option.some b] x0→∀ c,f≤c→tL c [Option.some a,Option.some b]→ACalls prog 75 [Sh.pk,
 .int .i64,.str,.str,.int .i64,Sh.dc,Sh.dc,Sh.dc,Sh.dc,.row (OfNat.ofNat 34) 9] [.dg 9 x0,.fn 150 [.pd a 0 (D.lit (.string s1)),.pd b 9 x2]] c (fun
 d e f g h i j k l m n=>c≤n→Off [Option.some a,Option.some b] h∧Off [Option.some a,Option.some b] i∧Off [Option.some
 a,Option.some b] j∧Off [Option.some a,Option.some b] k∧Off [Option.some a,Option.some b] (D.ag l)∧(Bel n (D.ag l)→(l.length
 = l.length∧m=m)∧(l.length=l.length∧m=m)∧∀ a b,n≤b→Fresh N b a [D.ag l,h,i,j,k]→∀ c,b
 ≤ c→Q (D.ag [D.lit (.int .i64 d),D.lit (.string e),D.lit (.string f),D.lit (.int .i64 g),h,i,j,k,D.sl a 9 l m]) c))) (∀
 a,f≤a→ACalls prog 40 [Sh.pk,.int .i64,.str,.str,.int .i64,Sh.dc,Sh.dc,Sh.dc,Sh.dc,.row (OfNat.ofNat 34) 9] [.dg 9 x0] a (fun f g h
 i j k l m n o p=>a≤p→Bel p (D.ag n)→∃ a q,∃ r:Nat,(x0.cell 8)=D.sl a 9 q r∧zx Q
 N b c d e a q r (q.length:Int) 0 x0 s1 x2 0 (bytes []) (bytes []) 0 0 Option.none [] 0 0 Option.none [] 0 Option.none [] 0 f g h i j
 k l m n.length o n o p))))):ACalls prog 112 [.ag 9] [PV.dg 9 x0,PV.str s1,PV.dg 9 x2] N Q:=
  eE (H:=wr) (by kernel_rfl) (by kernel_rfl) h
theorem zDZ (N:Nat) (x0:D) (n1:Int) (s2:ByteArray) (a3:Option Addr) (e3:List D) (c3:Nat) (Q:QT [.pk,.int .i64,.str,.str,.int .i64,.dc,.dc,.dc,.dc,.row 34 9]) (h :
Bel N x0→Bel N (D.sl a3 0 e3 c3)→∀ b,N≤b→ACalls prog 35 [Sh.pk,.int .i64,.str,.str,.int .i64,Sh.dc,Sh.dc,Sh.dc,Sh.dc,.row (OfNat.ofNat 34)
 9] [.dg 9 x0] b (fun n s c d x e f g h i j=>b≤j→Bel j (D.ag h)→∀ b,j≤b→ACalls prog 139 [.sl 0,.int .i64] [.dg 9 x0] b
 (fun a j k _ l=>b≤l→Bel l (D.sl a 0 j k)→yE Q N n1 s2 a3 e3 c3 a j k 0 0 (bytes []) (bytes []) 0 0 Option.none []
 0 0 Option.none [] 0 Option.none [] 0 n s c d x e f g h.length i h i l))):ACalls prog 140 [.pk,.int .i64,.str,.str,.int .i64,.dc,.dc,.dc,.dc,.row 34 9] [PV.dg 9 x0,PV.int .i64 n1,PV.str s2,PV.sv a3 0 e3 c3] N Q:=
  eE (H:=rp) (by kernel_rfl) (by kernel_rfl) h
theorem zAx (N:Nat) (x0:D) (s1:ByteArray) (x2:D) (Q:QT [.ag 9]) (h :
Bel N x0→Bel N x2→∃ n:Int,(x0.cell 0)=D.lit (.int .i64 n)∧Br (n==1) (∃ s,(x0.cell 1)=D.lit (.string s)∧Br (ByteArray.toList s==ByteArray.toList
 s1) (∀ b,N≤b→ACalls prog 35 [Sh.pk,.int .i64,.str,.str,.int .i64,Sh.dc,Sh.dc,Sh.dc,Sh.dc,.row (OfNat.ofNat 34) 9] [.dg 9 x2] b (fun c d e
 f x g h i j k l=>b≤l→Bel l (D.ag j)→(j.length=j.length∧k=k)∧(j.length=j.length∧k=k)∧∀ a b,l≤b→Fresh N b
 a [D.ag j,x,g,h,i]→∀ l,b≤l→Q (D.ag [D.lit (.int .i64 c),D.lit (.string d),D.lit (.string e),D.lit (.int .i64 f),x,g,h,
 i,D.sl a 9 j k]) l)) (∀ a,N≤a→ACalls prog 35 [Sh.pk,.int .i64,.str,.str,.int .i64,Sh.dc,Sh.dc,Sh.dc,Sh.dc,.row (OfNat.ofNat 34) 9] [.dg 9
 x0] a (fun b c d e f g h i j k l=>a≤l→Bel l (D.ag j)→∀ a,l≤a→ACalls prog 139 [.sl 0,.int .i64] [.dg 9 x0] a
 (fun l m n o p=>a≤p→Bel p (D.sl l 0 m n)→∀ a,p≤a→ACalls prog 121 [.int .i64] [.sv l 0 m n,.str s1] a (fun l
 m=>a≤m→Br (decide (o≥0)) (Br (!(decide (l≥0))) (∃ a n,∃ p:Nat,(x0.cell 8)=D.sl a 9 n p∧(0≤o∧o<(n.length
 : Int))∧∀ a,m≤a→ACalls prog 122 [.sl 0] [.dg 9 (List.getD n o.toNat default)] a (fun m n p q=>a≤q→Bel q (D.sl m
 0 n p)→∀ a,q≤a→ACalls prog 121 [.int .i64] [.sv m 0 n p,.str s1] a (fun m n=>a≤n→Br (decide (m≥0)) (∀ a,
 n≤a→ACalls prog 122 [.sl 0] [.dg 9 x2] a (fun b c d e=>a≤e→Bel e (D.sl b 0 c d)→∀ a,e≤a→ACalls prog
 140 [Sh.pk,.int .i64,.str,.str,.int .i64,Sh.dc,Sh.dc,Sh.dc,Sh.dc,.row (OfNat.ofNat 34) 9] [.dg 9 x0,.int .i64 o,.str s1,.sv b 0 c d] a (fun
 b c d e f g h i j k m=>a≤m→Bel m (D.ag j)→zE Q N s1 o (decide (l≥0)) 0 x2 0 (bytes []) (bytes
 []) 0 0 Option.none [] 0 0 Option.none [] 0 Option.none [] 0 b c d e f g h i j.length k j k m))) (zE Q N s1 o (decide
 (l≥0)) 0 x2 0 (bytes []) (bytes []) 0 0 Option.none [] 0 0 Option.none [] 0 Option.none [] 0 b c d e f g h i j.length k j k n))))
 (zE Q N s1 o (decide (l≥0)) 0 x2 0 (bytes []) (bytes []) 0 0 Option.none [] 0 0 Option.none [] 0 Option.none [] 0 b c d e f g h
 i j.length k j k m)) (zE Q N s1 o (decide (l≥0)) 0 x2 0 (bytes []) (bytes []) 0 0 Option.none [] 0 0 Option.none [] 0 Option.none
 [] 0 b c d e f g h i j.length k j k m)))))) (∀ a,N≤a→ACalls prog 35 [Sh.pk,.int .i64,.str,.str,.int .i64,Sh.dc,Sh.dc,
 Sh.dc,Sh.dc,.row (OfNat.ofNat 34) 9] [.dg 9 x0] a (fun b c d e f g h i j k l=>a≤l→Bel l (D.ag j)→∀ a,l
 ≤ a→ACalls prog 139 [.sl 0,.int .i64] [.dg 9 x0] a (fun l m n o p=>a≤p→Bel p (D.sl l 0 m n)→∀ a,p≤a→ACalls
 prog 121 [.int .i64] [.sv l 0 m n,.str s1] a (fun l m=>a≤m→Br (decide (o≥0)) (Br (!(decide (l≥0))) (∃ a n,∃ p:Nat,
 (x0.cell 8)=D.sl a 9 n p∧(0≤o∧o<(n.length:Int))∧∀ a,m≤a→ACalls prog 122 [.sl 0] [.dg 9 (List.getD n o.toNat default)]
 a (fun m n p q=>a≤q→Bel q (D.sl m 0 n p)→∀ a,q≤a→ACalls prog 121 [.int .i64] [.sv m 0 n p,.str s1]
 a (fun m n=>a≤n→Br (decide (m≥0)) (∀ a,n≤a→ACalls prog 122 [.sl 0] [.dg 9 x2] a (fun b c d e=>a≤e
 → Bel e (D.sl b 0 c d)→∀ a,e≤a→ACalls prog 140 [Sh.pk,.int .i64,.str,.str,.int .i64,Sh.dc,Sh.dc,Sh.dc,Sh.dc,.row (OfNat.ofNat
 34) 9] [.dg 9 x0,.int .i64 o,.str s1,.sv b 0 c d] a (fun b c d e f g h i j k m=>a≤m→Bel m (D.ag
 j)→zE Q N s1 o (decide (l≥0)) 0 x2 0 (bytes []) (bytes []) 0 0 Option.none [] 0 0 Option.none [] 0 Option.none [] 0 b c d e
 f g h i j.length k j k m))) (zE Q N s1 o (decide (l≥0)) 0 x2 0 (bytes []) (bytes []) 0 0 Option.none [] 0 0
 Option.none [] 0 Option.none [] 0 b c d e f g h i j.length k j k n)))) (zE Q N s1 o (decide (l≥0)) 0 x2
 0 (bytes []) (bytes []) 0 0 Option.none [] 0 0 Option.none [] 0 Option.none [] 0 b c d e f g h i j.length k j k m)) (zE
 Q N s1 o (decide (l≥0)) 0 x2 0 (bytes []) (bytes []) 0 0 Option.none [] 0 0 Option.none [] 0 Option.none [] 0 b c d e f g h i j.length
 k j k m)))))):ACalls prog 105 [.ag 9] [PV.dg 9 x0,PV.str s1,PV.dg 9 x2] N Q:=
  eE (H:=tF) (by kernel_rfl) (by kernel_rfl) h
theorem tf (N:Nat) (x0:D) (a1_0:Addr) (x1_0_:D) (a1_1:Addr) (x1_1_:D) (Q:QT [.pk,.int .i64,.str,.str,.int .i64,.dc,.dc,.dc,.dc,.row 34 9]) (h :
Bel N x0→∃ a b,∃ c:Nat,(x0.cell 8)=D.sl a 9 b c∧yL Q N a1_0 x1_0_ a1_1 x1_1_ 0 0 a b c (b.length:Int) 0 x0 0 (bytes []) (bytes
 []) 0 0 Option.none [] 0 0 Option.none [] 0 Option.none [] 0 [] 0 N):ACalls prog 75 [.pk,.int .i64,.str,.str,.int .i64,.dc,.dc,.dc,.dc,.row 34 9] [.dg 9 x0,.fn 150 [.pd a1_0 0 x1_0_,.pd a1_1 9 x1_1_]] N Q:=
  eE (H:=vh) (by kernel_rfl) (by kernel_rfl) h
theorem vW (Q:QT [.ag 9]) (N0:Nat) (a7:Option Addr) (e7:List D) (c7:Nat) (n8:Int) (a39:Option Addr) (e39:List D) (c39:Nat) (n40 n41:Int) (y0:D) (s1_0:ByteArray) (y2:D) (n3_0:Int) (s3_1 s3_2:ByteArray) (n3_3 n3_4:Int) (a3_5:Option Addr) (e3_5:List D) (c3_5:Nat) (n3_6:Int) (a3_7:Option Addr) (e3_7:List D) (c3_7:Nat) (a3_8:Option Addr) (e3_8:List D) (c3_8:Nat) (n4_0:Int) (s4_1 s4_2:ByteArray) (n4_3:Int) (x4_4 x4_5 x4_6 x4_7:D) (m4_8 c4_8:Nat) (r5:List D) (q5:Nat) (N:Nat) (h :
Br (decide (n41<n40)) ((0≤n41∧n41<(e39.length:Int))∧Br (bne n41 n8) (∀ a,N≤a→ACalls prog 112 [.ag 9] [.dg 9 (List.getD e39 n41.toNat default),
 .str s1_0,.dg 9 y2] a (fun x b=>a≤b→Bel b x→(0≤n41∧n41<(m4_8:Int)∧(0+n41.toNat:Nat)<r5.length)∧(0+n41.toNat:Nat)<r5.length
 ∧ zx Q N0 a7 e7 c7 n8 a39 e39 c39 n40 (IntKind.i64.wrap (n41+1)) y0 s1_0 y2 n3_0 s3_1 s3_2 n3_3 n3_4 a3_5 e3_5 c3_5 n3_6 a3_7 e3_7 c3_7 a3_8 e3_8
 c3_8 n4_0 s4_1 s4_2 n4_3 x4_4 x4_5 x4_6 x4_7 m4_8 c4_8 (List.set r5 (0+n41.toNat:Nat) x) q5 b)) (zx Q N0 a7 e7 c7 n8 a39 e39 c39 n40 (IntKind.i64.wrap
 (n41+1)) y0 s1_0 y2 n3_0 s3_1 s3_2 n3_3 n3_4 a3_5 e3_5 c3_5 n3_6 a3_7 e3_7 c3_7 a3_8 e3_8 c3_8 n4_0 s4_1 s4_2 n4_3 x4_4 x4_5 x4_6 x4_7 m4_8 c4_8 r5 q5 N)) (∀ d,
 N≤d→ACalls prog 131 [.bool] [.sv a7 0 e7 c7,.str s1_0] d (fun b e=>d≤e→Br b ((m4_8=r5.length∧c4_8=q5)∧(m4_8=r5.length∧c4_8=q5)
 ∧ (m4_8=r5.length∧c4_8=q5)∧∀ a b,e≤b→Fresh N0 b a [D.ag r5,x4_4,x4_5,x4_6,x4_7]→∀ c,b≤c→Q (D.ag [D.lit (.int .i64 n4_0),D.lit
 (.string s4_1),D.lit (.string s4_2),D.lit (.int .i64 n4_3),x4_4,x4_5,x4_6,x4_7,D.sl a 9 r5 q5]) c) (∃ a b,∃ c:Nat,(y0.cell 8)=D.sl a 9 b c ∧
 (0≤n8∧n8<(b.length:Int))∧∀ a,e≤a→ACalls prog 132 [.row (OfNat.ofNat 9) 0] [.dg 9 (List.getD b n8.toNat default)] a (fun b c d=>
 a≤d→Bel d (D.ag b)→(b.length=b.length∧c=c)∧∀ a,ApA a b→∀ e,d≤e→tL e [a]→ACalls prog 131 [.bool] [.sv
 a 0 b c,.str s1_0] e (fun a b=>e≤b→Br (!a) ((m4_8=r5.length∧c4_8=q5)∧(m4_8=r5.length∧c4_8=q5)∧(m4_8=r5.length∧c4_8
 = q5)∧∀ a c,b≤c→Fresh N0 c a [D.ag r5,x4_4,x4_5,x4_6,x4_7]→∀ b,c≤b→Q (D.ag [D.lit (.int .i64 n4_0),D.lit (.string s4_1),
 D.lit (.string s4_2),D.lit (.int .i64 n4_3),x4_4,x4_5,x4_6,x4_7,D.sl a 9 r5 q5]) b) (∀ a,b≤a→ACalls prog 132 [.row (OfNat.ofNat 9) 0] [.dg
 9 y2] a (fun b c d=>a≤d→Bel d (D.ag b)→zu Q N0 n8 b.length c a7 e7 c7 (e7.length:Int) 0 s1_0 y2 n3_0 s3_1
 s3_2 n3_3 n3_4 a3_5 e3_5 c3_5 n3_6 a3_7 e3_7 c3_7 a3_8 e3_8 c3_8 n4_0 s4_1 s4_2 n4_3 x4_4 x4_5 x4_6 x4_7 m4_8 c4_8 b c r5 q5 d)))))))):zx Q N0 a7 e7 c7 n8 a39 e39 c39 n40 n41 y0 s1_0 y2 n3_0 s3_1 s3_2 n3_3 n3_4 a3_5 e3_5 c3_5 n3_6 a3_7 e3_7 c3_7 a3_8 e3_8 c3_8 n4_0 s4_1 s4_2 n4_3 x4_4 x4_5 x4_6 x4_7 m4_8 c4_8 r5 q5 N:=
  hE (H:=wr) (by kernel_rfl) h
theorem tN (Q:QT [.pk,.int .i64,.str,.str,.int .i64,.dc,.dc,.dc,.dc,.row 34 9]) (N0:Nat) (n1:Int) (s2:ByteArray) (a3:Option Addr) (e3:List D) (c3:Nat) (a10:Option Addr) (e10:List D) (c10:Nat) (n12 n0_0:Int) (s0_1 s0_2:ByteArray) (n0_3 n0_4:Int) (a0_5:Option Addr) (e0_5:List D) (c0_5:Nat) (n0_6:Int) (a0_7:Option Addr) (e0_7:List D) (c0_7:Nat) (a0_8:Option Addr) (e0_8:List D) (c0_8:Nat) (n1_0:Int) (s1_1 s1_2:ByteArray) (n1_3:Int) (x1_4 x1_5 x1_6 x1_7:D) (m1_8 c1_8:Nat) (r2:List D) (q2:Nat) (N:Nat) (h :
Br (decide (n12<(e10.length:Int))) ((0≤n12∧n12<(e10.length:Int))∧∃ s,List.getD e10 n12.toNat default=D.lit (.string s)∧∀ b,N≤b→ACalls
 prog 121 [.int .i64] [.sv a3 0 e3 c3,.str s] b (fun n d=>b≤d→Br (decide (n<0)) (yE Q N0 n1 s2 a3 e3 c3 a10 e10 c10 (IntKind.i64.wrap
 (n12+1)) n0_0 s0_1 s0_2 n0_3 n0_4 a0_5 e0_5 c0_5 n0_6 a0_7 e0_7 c0_7 a0_8 e0_8 c0_8 n1_0 s1_1 s1_2 n1_3 x1_4 x1_5 x1_6 x1_7 m1_8 c1_8 r2 q2 d) ((m1_8=r2.length
 ∧ c1_8=q2)∧∀ a,ApA a r2→∀ b,d≤b→tL b [a]→ACalls prog 139 [.sl 0,.int .i64] [.dg 9 (D.ag [D.lit (.int .i64 n1_0),D.lit (.string s1_1),D.lit
 (.string s1_2),D.lit (.int .i64 n1_3),x1_4,x1_5,x1_6,x1_7,D.sl a 9 r2 c1_8])] b (fun c d e _ f=>b≤f→Off [a] (D.sl c 0 d e)∧(Bel f
 (D.sl c 0 d e)→(0≤n1∧n1<(m1_8:Int)∧(0+n1.toNat:Nat)<r2.length)∧(0+n1.toNat:Nat)<r2.length∧∀ a,f≤a→ACalls prog 122 [.sl
 0] [.dg 9 (List.getD r2 (0+n1.toNat:Nat) default)] a (fun b c e f=>a≤f→Bel f (D.sl b 0 c e)→∀ a,f≤a→ACalls prog 155
 [.row (OfNat.ofNat 9) 0] [.sv a3 0 e3 c3,.sv b 0 c e] a (fun b c e=>a≤e→Bel e (D.ag b)→(b.length=b.length∧c=c)
 ∧ zK b [D.lit (.string s2)] 16∧∀ (a:Nat),((b++[D.lit (.string s2)]).length=(b++[D.lit (.string s2)]).length∧a=a)∧zK (b
 ++ [D.lit (.string s2)]) d 16∧∀ (a:Nat),((b++[D.lit (.string s2)]++d).length=(b++[D.lit (.string s2)]++d).length∧a=a)∧∀ c,
 ApA c (b++[D.lit (.string s2)]++d)→∀ f,e≤f→tL f [c]→ACalls prog 173 [.str] [.sv c 0 (b++[D.lit (.string s2)]++d) a] f
 (fun a b=>f≤b→(0≤n1∧n1<(m1_8:Int)∧(0+n1.toNat:Nat)<r2.length)∧(0+n1.toNat:Nat)<r2.length∧(0≤n12∧n12<(e10.length :
 Int))∧∃ c,List.getD e10 n12.toNat default=D.lit (.string c)∧∀ d,b≤d→ACalls prog 174 [.ag 9] [.str a] d (fun x b=>d≤b →
 Bel b x→∀ d,b≤d→ACalls prog 105 [.ag 9] [.dg 9 (List.getD r2 (0+n1.toNat:Nat) default),.str c,.dg 9 x] d (fun b c=>d≤c
 → Bel c b→(0≤n1∧n1<(m1_8:Int)∧(0+n1.toNat:Nat)<r2.length)∧(0+n1.toNat:Nat)<r2.length∧Br (n12==0) (yE Q N0 n1 s2
 a3 e3 c3 a10 e10 c10 (IntKind.i64.wrap (n12+1)) n0_0 s0_1 s0_2 n0_3 n0_4 a0_5 e0_5 c0_5 n0_6 a0_7 e0_7 c0_7 a0_8 e0_8 c0_8 n1_0 a s1_2 n1_3 x1_4 x1_5 x1_6 x1_7
 m1_8 c1_8 (List.set r2 (0+n1.toNat:Nat) b) q2 c) (yE Q N0 n1 s2 a3 e3 c3 a10 e10 c10 (IntKind.i64.wrap (n12+1)) n0_0 s0_1 s0_2 n0_3 n0_4
 a0_5 e0_5 c0_5 n0_6 a0_7 e0_7 c0_7 a0_8 e0_8 c0_8 n1_0 s1_1 a n1_3 x1_4 x1_5 x1_6 x1_7 m1_8 c1_8 (List.set r2 (0+n1.toNat:Nat) b) q2 c))))))))))) ((m1_8
 = r2.length∧c1_8=q2)∧∀ a,N≤a→Q n1_0 s1_1 s1_2 n1_3 x1_4 x1_5 x1_6 x1_7 r2 c1_8 a)):yE Q N0 n1 s2 a3 e3 c3 a10 e10 c10 n12 n0_0 s0_1 s0_2 n0_3 n0_4 a0_5 e0_5 c0_5 n0_6 a0_7 e0_7 c0_7 a0_8 e0_8 c0_8 n1_0 s1_1 s1_2 n1_3 x1_4 x1_5 x1_6 x1_7 m1_8 c1_8 r2 q2 N:=
  hE (H:=rp) (by kernel_rfl) h
theorem uP (Q:QT [.ag 9]) (N0:Nat) (s1:ByteArray) (n9:Int) (b10:Bool) (n11:Int) (y0:D) (n1_0:Int) (s1_1 s1_2:ByteArray) (n1_3 n1_4:Int) (a1_5:Option Addr) (e1_5:List D) (c1_5:Nat) (n1_6:Int) (a1_7:Option Addr) (e1_7:List D) (c1_7:Nat) (a1_8:Option Addr) (e1_8:List D) (c1_8:Nat) (n2_0:Int) (s2_1 s2_2:ByteArray) (n2_3:Int) (x2_4 x2_5 x2_6 x2_7:D) (m2_8 c2_8:Nat) (r3:List D) (q3:Nat) (N:Nat) (h :
Br (decide (n11<(m2_8:Int))) (Br (bne n11 n9) ((0≤n11∧n11<(m2_8:Int)∧(0+n11.toNat:Nat)<r3.length)∧(0+n11.toNat:Nat)<r3.length∧∀ a,
 N≤a→ACalls prog 105 [.ag 9] [.dg 9 (List.getD r3 (0+n11.toNat:Nat) default),.str s1,.dg 9 y0] a (fun x b=>a≤b→Bel b x→(0≤n11∧n11
 < (m2_8:Int)∧(0+n11.toNat:Nat)<r3.length)∧(0+n11.toNat:Nat)<r3.length∧zE Q N0 s1 n9 b10 (IntKind.i64.wrap (n11+1)) y0 n1_0
 s1_1 s1_2 n1_3 n1_4 a1_5 e1_5 c1_5 n1_6 a1_7 e1_7 c1_7 a1_8 e1_8 c1_8 n2_0 s2_1 s2_2 n2_3 x2_4 x2_5 x2_6 x2_7 m2_8 c2_8 (List.set r3 (0+n11.toNat:Nat) x) q3
 b)) (Br (!b10) ((0≤n11∧n11<(m2_8:Int)∧(0+n11.toNat:Nat)<r3.length)∧(0+n11.toNat:Nat)<r3.length∧∀ a,N≤a→ACalls prog 105 [.ag
 9] [.dg 9 (List.getD r3 (0+n11.toNat:Nat) default),.str s1,.dg 9 y0] a (fun b c=>a≤c→Bel c b→(0≤n11∧n11<(m2_8:Int)∧(0+n11.toNat
 : Nat)<r3.length)∧(0+n11.toNat:Nat)<r3.length∧zE Q N0 s1 n9 b10 (IntKind.i64.wrap (n11+1)) y0 n1_0 s1_1 s1_2 n1_3 n1_4 a1_5 e1_5 c1_5
 n1_6 a1_7 e1_7 c1_7 a1_8 e1_8 c1_8 n2_0 s2_1 s2_2 n2_3 x2_4 x2_5 x2_6 x2_7 m2_8 c2_8 (List.set r3 (0+n11.toNat:Nat) b) q3 c)) (zE Q N0 s1
 n9 b10 (IntKind.i64.wrap (n11+1)) y0 n1_0 s1_1 s1_2 n1_3 n1_4 a1_5 e1_5 c1_5 n1_6 a1_7 e1_7 c1_7 a1_8 e1_8 c1_8 n2_0 s2_1 s2_2 n2_3 x2_4 x2_5 x2_6 x2_7 m2_8 c2_8
 r3 q3 N))) ((m2_8=r3.length∧c2_8=q3)∧(m2_8=r3.length∧c2_8=q3)∧(m2_8=r3.length∧c2_8=q3)∧(m2_8=r3.length∧c2_8=q3)∧∀ a b,N≤b
 → Fresh N0 b a [D.ag r3,x2_4,x2_5,x2_6,x2_7]→∀ c,b≤c→Q (D.ag [D.lit (.int .i64 n2_0),D.lit (.string s2_1),D.lit (.string s2_2),D.lit (.int
 .i64 n2_3),x2_4,x2_5,x2_6,x2_7,D.sl a 9 r3 q3]) c)):zE Q N0 s1 n9 b10 n11 y0 n1_0 s1_1 s1_2 n1_3 n1_4 a1_5 e1_5 c1_5 n1_6 a1_7 e1_7 c1_7 a1_8 e1_8 c1_8 n2_0 s2_1 s2_2 n2_3 x2_4 x2_5 x2_6 x2_7 m2_8 c2_8 r3 q3 N:=
  hE (H:=tF) (by kernel_rfl) h
theorem wo (Q:QT [.pk,.int .i64,.str,.str,.int .i64,.dc,.dc,.dc,.dc,.row 34 9]) (N0:Nat) (a1_0:Addr) (x1_0_:D) (a1_1:Addr) (x1_1_:D) (m5 c5:Nat) (a10:Option Addr) (e10:List D) (c10:Nat) (n11 n12:Int) (y0:D) (n1_0:Int) (s1_1 s1_2:ByteArray) (n1_3 n1_4:Int) (a1_5:Option Addr) (e1_5:List D) (c1_5:Nat) (n1_6:Int) (a1_7:Option Addr) (e1_7:List D) (c1_7:Nat) (a1_8:Option Addr) (e1_8:List D) (c1_8:Nat) (r2:List D) (q2:Nat) (N:Nat) (h :
Br (decide (n12<n11)) ((0≤n12∧n12<(e10.length:Int))∧∀ a,N≤a→ACalls prog 150 [.ag 9] [.dg 9 (List.getD e10 n12.toNat default),.pd a1_0 0 x1_0_,
 .pd a1_1 9 x1_1_] a (fun x b=>a≤b→Bel b x→(m5=r2.length∧c5=q2)∧zK r2 [x] 136∧∀ (c:Nat),yL Q N0 a1_0 x1_0_ a1_1
 x1_1_ (r2++[x]).length c a10 e10 c10 n11 (IntKind.i64.wrap (n12+1)) y0 n1_0 s1_1 s1_2 n1_3 n1_4 a1_5 e1_5 c1_5 n1_6 a1_7 e1_7 c1_7 a1_8 e1_8 c1_8 (r2++[x])
 c b)) ((m5=r2.length∧c5=q2)∧∀ a,ApA a r2→Off [a] y0→∀ b,N≤b→tL b [a]→ACalls prog 78 [Sh.pk,.int .i64,.str,.str,.int .i64,Sh.dc,
 Sh.dc,Sh.dc,Sh.dc,Sh.bk 1] [.dg 9 y0,.sv a 9 r2 c5] b (fun n s c d e f g h i j=>b≤j→i=D.sl a 9 r2 c5∧Off [a] e∧Off [a]
 f∧Off [a] g∧Off [a] h∧(m5=r2.length∧c5=q2)∧∀ a,j≤a→Q n s c d e f g h r2 c5 a))):yL Q N0 a1_0 x1_0_ a1_1 x1_1_ m5 c5 a10 e10 c10 n11 n12 y0 n1_0 s1_1 s1_2 n1_3 n1_4 a1_5 e1_5 c1_5 n1_6 a1_7 e1_7 c1_7 a1_8 e1_8 c1_8 r2 q2 N:=
  hE (H:=vh) (by kernel_rfl) h
theorem vL (Q:QT [.ag 9]) (N0:Nat) (n8:Int) (m12 c12:Nat) (a75:Option Addr) (e75:List D) (c75:Nat) (n76 n77:Int) (s0_0:ByteArray) (y1:D) (n2_0:Int) (s2_1 s2_2:ByteArray) (n2_3 n2_4:Int) (a2_5:Option Addr) (e2_5:List D) (c2_5:Nat) (n2_6:Int) (a2_7:Option Addr) (e2_7:List D) (c2_7:Nat) (a2_8:Option Addr) (e2_8:List D) (c2_8:Nat) (n3_0:Int) (s3_1 s3_2:ByteArray) (n3_3:Int) (x3_4 x3_5 x3_6 x3_7:D) (m3_8 c3_8:Nat) (r4:List D) (q4:Nat) (r5:List D) (q5:Nat) (N:Nat) (h :
Br (decide (n77<n76)) ((0≤n77∧n77<(e75.length:Int))∧∃ s,List.getD e75 n77.toNat default=D.lit (.string s)∧(m12=r4.length∧c12=q4)∧∀ a,ApA
 a r4→∀ d,N≤d→tL d [a]→ACalls prog 131 [.bool] [.sv a 0 r4 c12,.str s] d (fun b a=>d≤a→Br b ((m3_8=r5.length∧c3_8=q5)∧(m3_8
 = r5.length∧c3_8=q5)∧∀ b d,a≤d→Fresh N0 d b [D.ag r5]→(m12=r4.length∧c12=q4)∧∀ a,ApA a r4→∀ e,d≤e→tL e [a]
 → ACalls prog 151 [Sh.pk,.int .i64,.str,.str,.int .i64,Sh.dc,Sh.dc,Sh.dc,Sh.dc,.row (OfNat.ofNat 34) 9] [.dg 9 (D.ag [D.lit (.int .i64 n3_0),D.lit (.string
 s3_1),D.lit (.string s3_2),D.lit (.int .i64 n3_3),x3_4,x3_5,x3_6,x3_7,D.sl b 9 r5 q5]),.int .i64 n8,.str s,.sv a 0 r4 c12,.str s0_0] e (fun n b
 c d x f g h i j k=>e≤k→Off [a] x∧Off [a] f∧Off [a] g∧Off [a] h∧Off [a] (D.ag i)∧(Bel k (D.ag i)→zu
 Q N0 n8 m12 c12 a75 e75 c75 n76 (IntKind.i64.wrap (n77+1)) s0_0 y1 n2_0 s2_1 s2_2 n2_3 n2_4 a2_5 e2_5 c2_5 n2_6 a2_7 e2_7 c2_7 a2_8 e2_8 c2_8 n b c d x f
 g h i.length j r4 q4 i j k))) (zu Q N0 n8 m12 c12 a75 e75 c75 n76 (IntKind.i64.wrap (n77+1)) s0_0 y1 n2_0 s2_1 s2_2 n2_3 n2_4 a2_5 e2_5
 c2_5 n2_6 a2_7 e2_7 c2_7 a2_8 e2_8 c2_8 n3_0 s3_1 s3_2 n3_3 x3_4 x3_5 x3_6 x3_7 m3_8 c3_8 r4 q4 r5 q5 a))) ((0≤n8∧n8<(m3_8:Int)∧(0+n8.toNat:Nat)
 < r5.length)∧(0+n8.toNat:Nat)<r5.length∧∀ a,N≤a→ACalls prog 112 [.ag 9] [.dg 9 (List.getD r5 (0+n8.toNat:Nat) default),.str s0_0,.dg 9 y1]
 a (fun b c=>a≤c→Bel c b→(0≤n8∧n8<(m3_8:Int)∧(0+n8.toNat:Nat)<r5.length)∧(0+n8.toNat:Nat)<r5.length∧(m3_8=(List.set
 r5 (0+n8.toNat:Nat) b).length∧c3_8=q5)∧(m3_8=(List.set r5 (0+n8.toNat:Nat) b).length∧c3_8=q5)∧(m3_8=(List.set r5 (0+n8.toNat:Nat)
 b).length∧c3_8=q5)∧(m3_8=(List.set r5 (0+n8.toNat:Nat) b).length∧c3_8=q5)∧(m3_8=(List.set r5 (0+n8.toNat:Nat) b).length∧c3_8=q5)
 ∧ ∀ a d,c≤d→Fresh N0 d a [D.ag (List.set r5 (0+n8.toNat:Nat) b),x3_4,x3_5,x3_6,x3_7]→∀ c,d≤c→Q (D.ag [D.lit (.int .i64 n3_0),
 D.lit (.string s3_1),D.lit (.string s3_2),D.lit (.int .i64 n3_3),x3_4,x3_5,x3_6,x3_7,D.sl a 9 (List.set r5 (0+n8.toNat:Nat) b) q5]) c))):zu Q N0 n8 m12 c12 a75 e75 c75 n76 n77 s0_0 y1 n2_0 s2_1 s2_2 n2_3 n2_4 a2_5 e2_5 c2_5 n2_6 a2_7 e2_7 c2_7 a2_8 e2_8 c2_8 n3_0 s3_1 s3_2 n3_3 x3_4 x3_5 x3_6 x3_7 m3_8 c3_8 r4 q4 r5 q5 N:=
  hE (H:=wr) (by kernel_rfl) h
theorem sM (N:Nat) (x0:D) (a1:Addr) (x1_:D) (a2:Addr) (x2_:D) (Q:QT [.ag 9]) (h :
Bel N x0→∃ s,x1_=D.lit (.string s)∧∀ a,N≤a→ACalls prog 112 [.ag 9] [.dg 9 x0,.str s,.dg 9 x2_] a (fun x b=>a≤b→Bel b x→∀ a,
 b≤a→Q x a)):ACalls prog 150 [.ag 9] [.dg 9 x0,.pd a1 0 x1_,.pd a2 9 x2_] N Q:=
  eE (H:=pL) (by kernel_rfl) (by kernel_rfl) h
end Go.Proofs.YtnpjpplbkoammaaGreatDoor
set_option maxRecDepth 100000
namespace Go.Proofs.YtnpjpplbkoammaaGreatDoor
open Go Go.Proofs Go.Proofs.Tryz
def zAu:Hint:=⟨[],[],[(8,hs 10 [ec 1 [12],ec 7 [18]])]⟩
def sX:Hint:=⟨[hc 6 [1,2,4,5,6],hc 12 [1,2,4,5,9]],[],[(8,hs 7 [ec 5 [37]]),(9,hs 9 [ec 2 [41]]),(17,[en 0,en 1,en 2,en 3,en 4,en 5,en 6,en 7,eh 8,en 9,en 10,en 11,en 12,en 13])]⟩
def zGu:Hint:=⟨[],[],[(1,hs 12 [ec 5 [13]]),(4,hs 7 [ec 3 [21,23]])]⟩
def zDF:Hint:=⟨[],[],[(1,hs 4 [ec 1 [8]])]⟩
def qN:Hint:=⟨[hc 3 [1,2,4,5]],[],[(5,hs 7 [ec 5 [20]]),(6,hs 9 [ec 2 [24]]),(10,[en 0,en 1,en 2,en 3,en 4,en 5,en 6,en 7,en 8,en 9,ec 10 [38,44],eh 11,en 12]),(12,[en 0,en 1,en 2,en 3,en 4,en 5,en 6,en 8,en 9,en 10,en 11,en 12,en 13,ec 7 [51,54],ec 14 [55,61],eh 15,en 16])]⟩
def zFu:Hint:=⟨[],[],[(2,hs 3 [ec 1 [11]]),(3,hs 8 [ec 1 [15]]),(6,hs 10 [ec 7 [36]]),(8,[en 0,en 1,en 2,en 3,en 4,en 5,en 6,ec 7 [45,48],eh 8,en 9]),(10,hs 7 [ec 4 [62]])]⟩
def zD2:Hint:=⟨[],[],[(1,hs 2 [ec 1 [13]]),(5,hs 8 [ec 1 [21]]),(8,hs 8 [ec 1 [30]]),(11,hs 13 [ec 4 [42]]),(12,hs 6 [ec 2 [47,48]]),(17,hs 8 [ec 1 [57]])]⟩
def zHE:Hint:=⟨[],[],[]⟩
def zE7:Hint:=⟨[],[],[]⟩
def zDQ:Hint:=⟨[],[],[]⟩
def zE5:Hint:=⟨[],[],[]⟩
def zHR:Hint:=⟨[],[],[]⟩
def zq (Q:QT [.ag 9,.int .i64]) (N0:Nat) (n4:Int) (m5 c5:Nat) (n6:Int) (y0:D) (n1_0:Int) (s1_1 s1_2:ByteArray) (n1_3 n1_4:Int) (a1_5:Option Addr) (e1_5:List D) (c1_5:Nat) (n1_6:Int) (a1_7:Option Addr) (e1_7:List D) (c1_7:Nat) (a1_8:Option Addr) (e1_8:List D) (c1_8:Nat) (r2:List D) (q2:Nat) (N:Nat):Prop:=AT prog 66 [.ag 9,.int .i64] Q N0 .ord (zF prog 66 6) ⟨an 1 (.pb 0 0 0 0::.pb 1 0 0 0::an 1 (.int .i64 n4::.sb 2 0 0 m5 c5::.int .i64 n6::an 95 [])),[.vd y0 9,.var [.int .i64 n1_0,.str s1_1,.str s1_2,.int .i64 n1_3,.int .i64 n1_4,.sv a1_5 2 e1_5 c1_5,.int .i64 n1_6,.sv a1_7 2 e1_7 c1_7,.sv a1_8 9 e1_8 c1_8],.arr 3 0 r2 q2],N,none⟩
def wB (Q:QT [.ag 9,.int .i64]) (N0:Nat) (n5:Int) (y0:D) (n1_0:Int) (s1_1 s1_2:ByteArray) (n1_3 n1_4:Int) (a1_5:Option Addr) (e1_5:List D) (c1_5:Nat) (n1_6:Int) (a1_7:Option Addr) (e1_7:List D) (c1_7:Nat) (a1_8:Option Addr) (e1_8:List D) (c1_8:Nat) (y2:D) (N:Nat):Prop:=AT prog 67 [.ag 9,.int .i64] Q N0 .ord (zF prog 67 3) ⟨an 1 (.pb 0 0 0 0::.pb 1 0 0 0::an 1 (.pb 2 0 0 0::.int .i64 n5::an 58 [])),[.vd y0 9,.var [.int .i64 n1_0,.str s1_1,.str s1_2,.int .i64 n1_3,.int .i64 n1_4,.sv a1_5 2 e1_5 c1_5,.int .i64 n1_6,.sv a1_7 2 e1_7 c1_7,.sv a1_8 9 e1_8 c1_8],.vd y2 9],N,none⟩
def yu (Q:QT [.ag 9,.int .i64]) (N0:Nat) (n4:Int) (m5 c5:Nat) (n9:Int) (y0:D) (n1_0:Int) (s1_1 s1_2:ByteArray) (n1_3 n1_4:Int) (a1_5:Option Addr) (e1_5:List D) (c1_5:Nat) (n1_6:Int) (a1_7:Option Addr) (e1_7:List D) (c1_7:Nat) (a1_8:Option Addr) (e1_8:List D) (c1_8:Nat) (r2:List D) (q2:Nat) (N:Nat):Prop:=AT prog 66 [.ag 9,.int .i64] Q N0 .ord (zF prog 66 12) ⟨an 1 (.pb 0 0 0 0::.pb 1 0 0 0::an 1 (.int .i64 n4::.sb 2 0 0 m5 c5::an 3 (.int .i64 n9::an 92 []))),[.vd y0 9,.var [.int .i64 n1_0,.str s1_1,.str s1_2,.int .i64 n1_3,.int .i64 n1_4,.sv a1_5 2 e1_5 c1_5,.int .i64 n1_6,.sv a1_7 2 e1_7 c1_7,.sv a1_8 9 e1_8 c1_8],.arr 3 0 r2 q2],N,none⟩
theorem zBA (N:Nat) (x0:D) (Q:QT [.bool]) (h :
Bel N x0→∃ n:Int,(x0.cell 0)=D.lit (.int .i64 n)∧Br (n==2) (∀ a,N≤a→Q true a) (Br (n==3) (∀ a,N≤a→Q true a) (Br (n==6) (∀ a,
 N≤a→Q true a) (Br (n==9) (∀ a,N≤a→Q true a) (Br (n==10) (∀ d,N≤d→ACalls prog 64 [.bool] [.dg 9 x0,.int .i64 0] d (fun b e=>
 d≤e→Br b (∃ a b,∃ c:Nat,(x0.cell 8)=D.sl a 9 b c∧((0:Int)≤(0:Int)∧0<(b.length:Int))∧∀ a,e≤a→ACalls prog 85 [.bool] [.dg
 9 (List.getD b 0 default),.int .i64 1] a (fun b c=>a≤c→∀ a,c≤a→Q b a)) (∀ a,e≤a→Q false a))) (∀ a,N≤a →
 Q false a)))))):ACalls prog 53 [.bool] [PV.dg 9 x0] N Q:=
  eE (H:=zAu) (by kernel_rfl) (by kernel_rfl) h
theorem zGV (N:Nat) (x0:D) (Q:QT [.ag 9,.int .i64]) (h :
Bel N x0→∃ s,(x0.cell 1)=D.lit (.string s)∧Br (ByteArray.toList s==ByteArray.toList (bytes [38])) (zq Q N 3 2 2 0 x0 0 (bytes []) (bytes [])
 0 0 Option.none [] 0 0 Option.none [] 0 Option.none [] 0 [D.lit (.int .i64 0),D.lit (.int .i64 0)] 2 N) (∃ a,(x0.cell 1)=D.lit (.string a)∧Br (ByteArray.toList
 a==ByteArray.toList (bytes [124])) (zq Q N 3 2 2 0 x0 0 (bytes []) (bytes []) 0 0 Option.none [] 0 0 Option.none [] 0 Option.none [] 0 [D.lit (.int
 .i64 0),D.lit (.int .i64 0)] 2 N) (∃ a,(x0.cell 1)=D.lit (.string a)∧Br (ByteArray.toList a==ByteArray.toList (bytes [33])) (zq Q N 3 2
 2 0 x0 0 (bytes []) (bytes []) 0 0 Option.none [] 0 0 Option.none [] 0 Option.none [] 0 [D.lit (.int .i64 0),D.lit (.int .i64 0)] 2 N) (zq Q N 2 2 2
 0 x0 0 (bytes []) (bytes []) 0 0 Option.none [] 0 0 Option.none [] 0 Option.none [] 0 [D.lit (.int .i64 0),D.lit (.int .i64 0)] 2 N)))):ACalls prog 66 [.ag 9,.int .i64] [PV.dg 9 x0] N Q:=
  eE (H:=sX) (by kernel_rfl) (by kernel_rfl) h
theorem zG5 (N:Nat) (x0:D) (n1:Int) (Q:QT [.ag 9,.int .i64]) (h :
Bel N x0→∃ a b,∃ c:Nat,(x0.cell 8)=D.sl a 9 b c∧(0≤n1∧n1<(b.length:Int))∧∀ a,N≤a→ACalls prog 36 [.ag 9,.int .i64] [.dg 9 (List.getD
 b n1.toNat default)] a (fun x n b=>a≤b→Bel b x→Br (n==0) (∀ a,b≤a→Q x0 n a) (∀ a,b≤a→ACalls prog 69 [.ag 9] [.dg 9 x0,
 .int .i64 n1,.dg 9 x] a (fun b c=>a≤c→Bel c b→∀ a,c≤a→Q b n a)))):ACalls prog 101 [.ag 9,.int .i64] [PV.dg 9 x0,PV.int .i64 n1] N Q:=
  eE (H:=zGu) (by kernel_rfl) (by kernel_rfl) h
theorem zDi (N:Nat) (x0:D) (n1:Int) (x2:D) (Q:QT [.ag 9]) (h :
Bel N x0→Bel N x2→∀ b,N≤b→ACalls prog 35 [Sh.pk,.int .i64,.str,.str,.int .i64,Sh.dc,Sh.dc,Sh.dc,Sh.dc,.row (OfNat.ofNat 34) 9] [.dg 9 x0] b
 (fun n s c d x e f g h i j=>b≤j→Bel j (D.ag h)→(0≤n1∧n1<(h.length:Int)∧(0+n1.toNat:Nat)<h.length)∧(0+n1.toNat :
 Nat)<h.length∧(h.length=(List.set h (0+n1.toNat:Nat) x2).length∧i=i)∧(h.length=(List.set h (0+n1.toNat:Nat) x2).length∧i=i)∧(h.length
 = (List.set h (0+n1.toNat:Nat) x2).length∧i=i)∧(h.length=(List.set h (0+n1.toNat:Nat) x2).length∧i=i)∧(h.length=(List.set h (0+n1.toNat
 : Nat) x2).length∧i=i)∧∀ a b,j≤b→Fresh N b a [D.ag (List.set h (0+n1.toNat:Nat) x2),x,e,f,g]→∀ j,b≤j→Q (D.ag [D.lit
 (.int .i64 n),D.lit (.string s),D.lit (.string c),D.lit (.int .i64 d),x,e,f,g,D.sl a 9 (List.set h (0+n1.toNat:Nat) x2) i]) j)):ACalls prog 69 [.ag 9] [PV.dg 9 x0,PV.int .i64 n1,PV.dg 9 x2] N Q:=
  eE (H:=zDF) (by kernel_rfl) (by kernel_rfl) h
theorem zF6 (N:Nat) (x0:D) (Q:QT [.ag 9,.int .i64]) (h :
Bel N x0→∃ a b,∃ c:Nat,(x0.cell 8)=D.sl a 9 b c∧((0:Int)≤(0:Int)∧0<(b.length:Int))∧wB Q N 0 x0 0 (bytes []) (bytes []) 0
 0 Option.none [] 0 0 Option.none [] 0 Option.none [] 0 (List.getD b 0 default) N):ACalls prog 67 [.ag 9,.int .i64] [PV.dg 9 x0] N Q:=
  eE (H:=qN) (by kernel_rfl) (by kernel_rfl) h
theorem zFp (N:Nat) (x0:D) (Q:QT [.ag 9,.int .i64]) (h :
Bel N x0→∃ a d,∃ c:Nat,(x0.cell 8)=D.sl a 9 d c∧((0:Int)≤(0:Int)∧0<(d.length:Int))∧∀ a,N≤a→ACalls prog 53 [.bool] [.dg 9 (List.getD
 d 0 default)] a (fun b c=>a≤c→Br (!b) (∀ a,c≤a→ACalls prog 101 [.ag 9,.int .i64] [.dg 9 x0,.int .i64 0] a (fun x n b=>a≤b
 → Bel b x→∀ a,b≤a→Q x n a)) (∃ a:Int,(x0.cell 0)=D.lit (.int .i64 a)∧Br (a==5) (∃ a:Int,D.cell (List.getD d 0 default) 0 =
 D.lit (.int .i64 a)∧Br (a==3) (∃ a b,∃ e:Nat,(x0.cell 8)=D.sl a 9 b e∧∃ a:Int,D.cell (List.getD d 0 default) 3=D.lit (.int
 .i64 a)∧(0≤IntKind.i64.wrap (2 - a)∧IntKind.i64.wrap (2 - a)<(b.length:Int))∧∀ d,c≤d→ACalls prog 35 [Sh.pk,.int .i64,.str,.str,
 .int .i64,Sh.dc,Sh.dc,Sh.dc,Sh.dc,.row (OfNat.ofNat 34) 9] [.dg 9 (List.getD b (IntKind.i64.wrap (2 - a)).toNat default)] d (fun a s b c e f
 g h i j k=>d≤k→Bel k (D.ag i)→(i.length=i.length∧j=j)∧(i.length=i.length∧j=j)∧∀ d l,k≤l
 → Fresh N l d [D.ag i,e,f,g,h]→∀ k,l≤k→Q (D.ag [D.lit (.int .i64 a),D.lit (.string s),D.lit (.string b),D.lit (.int .i64 c),
 e,f,g,h,D.sl d 9 i j]) 2 k)) (∃ a:Int,(x0.cell 0)=D.lit (.int .i64 a)∧Br (a==8) (∃ a b,∃ e:Nat,(x0.cell 8)=D.sl
 a 9 b e∧((0:Int)≤(1:Int)∧1<(b.length:Int))∧∃ a,(x0.cell 1)=D.lit (.string a)∧∀ e,c≤e→ACalls prog 105 [.ag 9] [.dg
 9 (List.getD b 1 default),.str a,.dg 9 (List.getD d 0 default)] e (fun a b=>e≤b→Bel b a→∀ c,b≤c→Q a 5 c)) (∃
 a:Int,(x0.cell 0)=D.lit (.int .i64 a)∧Br (a==12) (∃ a:Int,D.cell (List.getD d 0 default) 0=D.lit (.int .i64 a)∧Br (a==10) (∃ a b,
 ∃ e:Nat,D.cell (List.getD d 0 default) 8=D.sl a 9 b e∧((0:Int)≤(0:Int)∧0<(b.length:Int))∧∀ a,c≤a→ACalls prog 35 [Sh.pk,
 .int .i64,.str,.str,.int .i64,Sh.dc,Sh.dc,Sh.dc,Sh.dc,.row (OfNat.ofNat 34) 9] [.dg 9 (List.getD b 0 default)] a (fun b c d e f g h
 i j k l=>a≤l→Bel l (D.ag j)→(j.length=j.length∧k=k)∧(j.length=j.length∧k=k)∧∀ a m,l ≤
 m→Fresh N m a [D.ag j,f,g,h,i]→∀ l,m≤l→Q (D.ag [D.lit (.int .i64 b),D.lit (.string c),D.lit (.string d),D.lit (.int
 .i64 e),f,g,h,i,D.sl a 9 j k]) 7 l)) (∃ a:Int,(x0.cell 0)=D.lit (.int .i64 a)∧Br (a==13) (∃ a:Int,D.cell (List.getD
 d 0 default) 0=D.lit (.int .i64 a)∧Br (a==2) ((1=([List.getD d 0 default]).length∧1=1)∧∀ a,ApA a [List.getD d 0 default]→∀ b,c
 ≤ b→tL b [a]→ACalls prog 86 [.ag 9] [.int .i64 10,.sv a 9 [List.getD d 0 default] 1] b (fun c d=>b≤d→Off [a] c∧(Bel
 d c→∀ a,d≤a→Q c 8 a))) (∃ a:Int,D.cell (List.getD d 0 default) 0=D.lit (.int .i64 a)∧Br (a==3) ((1=([List.getD d
 0 default]).length∧1=1)∧∀ a,ApA a [List.getD d 0 default]→∀ b,c≤b→tL b [a]→ACalls prog 86 [.ag 9] [.int .i64 10,.sv a 9 [List.getD
 d 0 default] 1] b (fun c d=>b≤d→Off [a] c∧(Bel d c→∀ a,d≤a→Q c 8 a))) (∀ a,c≤a→Q x0 0 a)))
 (∀ a,c≤a→Q x0 0 a))) (∃ a:Int,(x0.cell 0)=D.lit (.int .i64 a)∧Br (a==13) (∃ a:Int,D.cell (List.getD d 0 default) 0=D.lit
 (.int .i64 a)∧Br (a==2) ((1=([List.getD d 0 default]).length∧1=1)∧∀ a,ApA a [List.getD d 0 default]→∀ b,c≤b→tL b [a]
 → ACalls prog 86 [.ag 9] [.int .i64 10,.sv a 9 [List.getD d 0 default] 1] b (fun c d=>b≤d→Off [a] c∧(Bel d c→∀ a,d
 ≤ a→Q c 8 a))) (∃ a:Int,D.cell (List.getD d 0 default) 0=D.lit (.int .i64 a)∧Br (a==3) ((1=([List.getD d 0 default]).length∧1
 = 1)∧∀ a,ApA a [List.getD d 0 default]→∀ b,c≤b→tL b [a]→ACalls prog 86 [.ag 9] [.int .i64 10,.sv a 9 [List.getD d 0 default]
 1] b (fun c d=>b≤d→Off [a] c∧(Bel d c→∀ a,d≤a→Q c 8 a))) (∀ a,c≤a→Q x0 0 a))) (∀ a,c
 ≤ a→Q x0 0 a))))) (∃ a:Int,(x0.cell 0)=D.lit (.int .i64 a)∧Br (a==8) (∃ a b,∃ e:Nat,(x0.cell 8)=D.sl a 9 b e∧((0
 : Int)≤(1:Int)∧1<(b.length:Int))∧∃ a,(x0.cell 1)=D.lit (.string a)∧∀ e,c≤e→ACalls prog 105 [.ag 9] [.dg 9 (List.getD b 1
 default),.str a,.dg 9 (List.getD d 0 default)] e (fun a b=>e≤b→Bel b a→∀ c,b≤c→Q a 5 c)) (∃ a:Int,(x0.cell
 0)=D.lit (.int .i64 a)∧Br (a==12) (∃ a:Int,D.cell (List.getD d 0 default) 0=D.lit (.int .i64 a)∧Br (a==10) (∃ a b,∃ e:Nat,
 D.cell (List.getD d 0 default) 8=D.sl a 9 b e∧((0:Int)≤(0:Int)∧0<(b.length:Int))∧∀ a,c≤a→ACalls prog 35 [Sh.pk,.int .i64,
 .str,.str,.int .i64,Sh.dc,Sh.dc,Sh.dc,Sh.dc,.row (OfNat.ofNat 34) 9] [.dg 9 (List.getD b 0 default)] a (fun b c d e f g h i j
 k l=>a≤l→Bel l (D.ag j)→(j.length=j.length∧k=k)∧(j.length=j.length∧k=k)∧∀ a m,l≤m→Fresh
 N m a [D.ag j,f,g,h,i]→∀ l,m≤l→Q (D.ag [D.lit (.int .i64 b),D.lit (.string c),D.lit (.string d),D.lit (.int .i64
 e),f,g,h,i,D.sl a 9 j k]) 7 l)) (∃ a:Int,(x0.cell 0)=D.lit (.int .i64 a)∧Br (a==13) (∃ a:Int,D.cell (List.getD
 d 0 default) 0=D.lit (.int .i64 a)∧Br (a==2) ((1=([List.getD d 0 default]).length∧1=1)∧∀ a,ApA a [List.getD d 0 default]→∀ b,
 c≤b→tL b [a]→ACalls prog 86 [.ag 9] [.int .i64 10,.sv a 9 [List.getD d 0 default] 1] b (fun c d=>b≤d→Off [a] c
 ∧ (Bel d c→∀ a,d≤a→Q c 8 a))) (∃ a:Int,D.cell (List.getD d 0 default) 0=D.lit (.int .i64 a)∧Br (a==3) ((1=([List.getD
 d 0 default]).length∧1=1)∧∀ a,ApA a [List.getD d 0 default]→∀ b,c≤b→tL b [a]→ACalls prog 86 [.ag 9] [.int .i64 10,.sv a
 9 [List.getD d 0 default] 1] b (fun c d=>b≤d→Off [a] c∧(Bel d c→∀ a,d≤a→Q c 8 a))) (∀ a,c≤a
 → Q x0 0 a))) (∀ a,c≤a→Q x0 0 a))) (∃ a:Int,(x0.cell 0)=D.lit (.int .i64 a)∧Br (a==13) (∃ a:Int,D.cell (List.getD d 0
 default) 0=D.lit (.int .i64 a)∧Br (a==2) ((1=([List.getD d 0 default]).length∧1=1)∧∀ a,ApA a [List.getD d 0 default]→∀ b,c ≤
 b→tL b [a]→ACalls prog 86 [.ag 9] [.int .i64 10,.sv a 9 [List.getD d 0 default] 1] b (fun c d=>b≤d→Off [a] c∧(Bel
 d c→∀ a,d≤a→Q c 8 a))) (∃ a:Int,D.cell (List.getD d 0 default) 0=D.lit (.int .i64 a)∧Br (a==3) ((1=([List.getD d
 0 default]).length∧1=1)∧∀ a,ApA a [List.getD d 0 default]→∀ b,c≤b→tL b [a]→ACalls prog 86 [.ag 9] [.int .i64 10,.sv a
 9 [List.getD d 0 default] 1] b (fun c d=>b≤d→Off [a] c∧(Bel d c→∀ a,d≤a→Q c 8 a))) (∀ a,c≤a
 → Q x0 0 a))) (∀ a,c≤a→Q x0 0 a))))))):ACalls prog 70 [.ag 9,.int .i64] [PV.dg 9 x0] N Q:=
  eE (H:=zFu) (by kernel_rfl) (by kernel_rfl) h
theorem zC2 (N:Nat) (x0:D) (Q:QT [.ag 9,.int .i64]) (h :
Bel N x0→∀ d,N≤d→ACalls prog 53 [.bool] [.dg 9 x0] d (fun b e=>d≤e→Br b (∀ a,e≤a→Q x0 0 a) (∃ n:Int,(x0.cell 0)=D.lit
 (.int .i64 n)∧Br (n==4) (∀ a,e≤a→ACalls prog 66 [.ag 9,.int .i64] [.dg 9 x0] a (fun x b c=>a≤c→Bel c x→∀ a,c≤a→Q x
 b a)) (Br (n==7) (∀ a,e≤a→ACalls prog 67 [.ag 9,.int .i64] [.dg 9 x0] a (fun b c d=>a≤d→Bel d b→∀ a,d≤a→Q b
 c a)) (Br (n==10) (∃ a b,∃ c:Nat,(x0.cell 8)=D.sl a 9 b c∧((0:Int)≤(0:Int)∧0<(b.length:Int))∧∀ a,e≤a→ACalls prog 68 [.ag
 9,.int .i64,.bool] [.dg 9 (List.getD b 0 default),.int .i64 1] a (fun b c _ d=>a≤d→Bel d b→∀ a,d≤a→ACalls prog 69
 [.ag 9] [.dg 9 x0,.int .i64 0,.dg 9 b] a (fun b d=>a≤d→Bel d b→∀ a,d≤a→Q b c a))) (Br (n==5) (∀ a,e ≤
 a→ACalls prog 70 [.ag 9,.int .i64] [.dg 9 x0] a (fun b c d=>a≤d→Bel d b→∀ a,d≤a→Q b c a)) (Br (n==8) (∀
 a,e≤a→ACalls prog 70 [.ag 9,.int .i64] [.dg 9 x0] a (fun b c d=>a≤d→Bel d b→∀ a,d≤a→Q b c a)) (Br
 (n==12) (∀ a,e≤a→ACalls prog 70 [.ag 9,.int .i64] [.dg 9 x0] a (fun b c d=>a≤d→Bel d b→∀ a,d≤a→Q b c
 a)) (Br (n==13) (∀ a,e≤a→ACalls prog 70 [.ag 9,.int .i64] [.dg 9 x0] a (fun b c d=>a≤d→Bel d b→∀ a,d≤a
 → Q b c a)) (∀ a,e≤a→Q x0 0 a)))))))))):ACalls prog 36 [.ag 9,.int .i64] [PV.dg 9 x0] N Q:=
  eE (H:=zD2) (by kernel_rfl) (by kernel_rfl) h
theorem zHG (N:Nat) (n0:Int) (Q:QT [.ag 9]) (h :
∀ a,N≤a→Q (D.ag [D.lit (.int .i64 2),D.lit (.string (bytes [])),D.lit (.string (bytes [])),D.lit (.int .i64 n0),D.lit (.int .i64 0),D.sl Option.none
 2 [] 0,D.lit (.int .i64 0),D.sl Option.none 2 [] 0,D.sl Option.none 9 [] 0]) a):ACalls prog 103 [.ag 9] [PV.int .i64 n0] N Q:=
  eE (H:=zHE) (by kernel_rfl) (by kernel_rfl) h
theorem zFH (N:Nat) (n0:Int) (Q:QT [.ag 9]) (h :
∀ a,N≤a→Q (D.ag [D.lit (.int .i64 3),D.lit (.string (bytes [])),D.lit (.string (bytes [])),D.lit (.int .i64 n0),D.lit (.int .i64 0),D.sl Option.none
 2 [] 0,D.lit (.int .i64 0),D.sl Option.none 2 [] 0,D.sl Option.none 9 [] 0]) a):ACalls prog 104 [.ag 9] [PV.int .i64 n0] N Q:=
  eE (H:=zE7) (by kernel_rfl) (by kernel_rfl) h
theorem zDL (N:Nat) (s0:ByteArray) (n1 n2:Int) (Q:QT [.int .i64,.bool]) (h :
∀ a,N≤a→ACalls prog 52 [.bool] [.int .i64 n1,.int .i64 0,.int .i64 10006] a (fun b c=>a≤c→Br (!b) (∀ a,c≤a→Q 0 false a) (∀
 a,c≤a→ACalls prog 52 [.bool] [.int .i64 n2,.int .i64 0,.int .i64 10006] a (fun b c=>a≤c→Br (!b) (∀ a,c≤a→Q 0 false a)
 (Br (ByteArray.toList s0==ByteArray.toList (bytes [43])) (∀ a,c≤a→ACalls prog 137 [.int .i64] [.int .i64 (IntKind.i64.wrap (n1+n2))] a (fun n b
 => a≤b→∀ a,b≤a→Q n true a)) (Br (ByteArray.toList s0==ByteArray.toList (bytes [45])) (∀ a,c≤a→ACalls prog 137 [.int .i64] [.int
 .i64 (IntKind.i64.wrap (n1 - n2))] a (fun b c=>a≤c→∀ a,c≤a→Q b true a)) (Br (ByteArray.toList s0==ByteArray.toList (bytes
 [42])) (∀ a,c≤a→ACalls prog 137 [.int .i64] [.int .i64 (IntKind.i64.wrap (n1*n2))] a (fun b c=>a≤c→∀ a,c≤a→Q b
 true a)) (Br (ByteArray.toList s0==ByteArray.toList (bytes [61])) (∀ a,c≤a→ACalls prog 138 [.int .i64] [.bool (n1==n2)] a (fun b c=>
 a≤c→∀ a,c≤a→Q b true a)) (Br (ByteArray.toList s0==ByteArray.toList (bytes [60])) (∀ a,c≤a→ACalls prog 138 [.int .i64]
 [.bool (decide (n1<n2))] a (fun b c=>a≤c→∀ a,c≤a→Q b true a)) (Br (ByteArray.toList s0==ByteArray.toList (bytes [38]))
 (Br (n1==1) (∀ a,c≤a→ACalls prog 138 [.int .i64] [.bool (n2==1)] a (fun b c=>a≤c→∀ a,c≤a→Q b true a)) (∀
 a,c≤a→ACalls prog 138 [.int .i64] [.bool false] a (fun b c=>a≤c→∀ a,c≤a→Q b true a))) (Br (ByteArray.toList s0
 == ByteArray.toList (bytes [124])) (Br (n1==1) (∀ a,c≤a→ACalls prog 138 [.int .i64] [.bool true] a (fun b c=>a≤c→∀ a,c
 ≤ a→Q b true a)) (∀ a,c≤a→ACalls prog 138 [.int .i64] [.bool (n2==1)] a (fun b c=>a≤c→∀ a,c≤a→Q b true
 a))) (Br (ByteArray.toList s0==ByteArray.toList (bytes [33])) (∀ a,c≤a→ACalls prog 138 [.int .i64] [.bool (n1==0)] a (fun b c=>a
 ≤ c→∀ a,c≤a→Q b true a)) (∀ a,c≤a→Q 0 false a))))))))))))):ACalls prog 102 [.int .i64,.bool] [PV.str s0,PV.int .i64 n1,PV.int .i64 n2] N Q:=
  eE (H:=zDQ) (by kernel_rfl) (by kernel_rfl) h
theorem zFJ (N:Nat) (n0:Int) (Q:QT [.int .i64]) (h :
(10007:Int)≠(0:Int)∧Br (decide (Int.tmod n0 10007<0)) (∀ a,N≤a→Q (IntKind.i64.wrap (Int.tmod n0 10007+10007)) a) (∀ a,N≤a→Q (Int.tmod
 n0 10007) a)):ACalls prog 137 [.int .i64] [PV.int .i64 n0] N Q:=
  eE (H:=zE5) (by kernel_rfl) (by kernel_rfl) h
theorem zGI (N:Nat) (b0:Bool) (Q:QT [.int .i64]) (h :
Br b0 (∀ a,N≤a→Q 1 a) (∀ a,N≤a→Q 0 a)):ACalls prog 138 [.int .i64] [PV.bool b0] N Q:=
 eE (H:=zHR) (by kernel_rfl) (by kernel_rfl) h
theorem rS (Q:QT [.ag 9,.int .i64]) (N0:Nat) (n4:Int) (m5 c5:Nat) (n6:Int) (y0:D) (n1_0:Int) (s1_1 s1_2:ByteArray) (n1_3 n1_4:Int) (a1_5:Option Addr) (e1_5:List D) (c1_5:Nat) (n1_6:Int) (a1_7:Option Addr) (e1_7:List D) (c1_7:Nat) (a1_8:Option Addr) (e1_8:List D) (c1_8:Nat) (r2:List D) (q2:Nat) (N:Nat) (h :
∃ a d,∃ c:Nat,(y0.cell 8)=D.sl a 9 d c∧Br (decide (n6<(d.length:Int))) (∃ a c,∃ d:Nat,(y0.cell 8)=D.sl a 9 c d∧(0≤n6∧n6
 < (c.length:Int))∧∀ a,N≤a→ACalls prog 53 [.bool] [.dg 9 (List.getD c n6.toNat default)] a (fun b c=>a≤c→Br (!b) (∀ a,c≤a
 → ACalls prog 101 [.ag 9,.int .i64] [.dg 9 y0,.int .i64 n6] a (fun x n b=>a≤b→Bel b x→∀ a,b≤a→Q x n a)) (zq Q N0 n4
 m5 c5 (IntKind.i64.wrap (n6+1)) y0 n1_0 s1_1 s1_2 n1_3 n1_4 a1_5 e1_5 c1_5 n1_6 a1_7 e1_7 c1_7 a1_8 e1_8 c1_8 r2 q2 c))) (yu Q N0 n4 m5 c5 0 y0
 n1_0 s1_1 s1_2 n1_3 n1_4 a1_5 e1_5 c1_5 n1_6 a1_7 e1_7 c1_7 a1_8 e1_8 c1_8 r2 q2 N)):zq Q N0 n4 m5 c5 n6 y0 n1_0 s1_1 s1_2 n1_3 n1_4 a1_5 e1_5 c1_5 n1_6 a1_7 e1_7 c1_7 a1_8 e1_8 c1_8 r2 q2 N:=
  hE (H:=sX) (by kernel_rfl) h
theorem sS (Q:QT [.ag 9,.int .i64]) (N0:Nat) (n5:Int) (y0:D) (n1_0:Int) (s1_1 s1_2:ByteArray) (n1_3 n1_4:Int) (a1_5:Option Addr) (e1_5:List D) (c1_5:Nat) (n1_6:Int) (a1_7:Option Addr) (e1_7:List D) (c1_7:Nat) (a1_8:Option Addr) (e1_8:List D) (c1_8:Nat) (y2:D) (N:Nat) (h :
Br (decide (n5<2)) (∃ a d,∃ c:Nat,(y0.cell 8)=D.sl a 9 d c∧(0≤n5∧n5<(d.length:Int))∧∀ a,N≤a→ACalls prog 53 [.bool] [.dg 9 (List.getD
 d n5.toNat default)] a (fun b c=>a≤c→Br (!b) (∀ a,c≤a→ACalls prog 101 [.ag 9,.int .i64] [.dg 9 y0,.int .i64 n5] a (fun x n b=>a
 ≤ b→Bel b x→∀ a,b≤a→Q x n a)) (wB Q N0 (IntKind.i64.wrap (n5+1)) y0 n1_0 s1_1 s1_2 n1_3 n1_4 a1_5 e1_5 c1_5 n1_6 a1_7 e1_7 c1_7
 a1_8 e1_8 c1_8 y2 c))) (∃ a:Int,(y2.cell 0)=D.lit (.int .i64 a)∧Br (a==6) (∃ a b,∃ c:Nat,(y2.cell 8)=D.sl a 9 b c∧((0:Int)
 ≤ (0:Int)∧0<(b.length:Int))∧∃ s,(y2.cell 1)=D.lit (.string s)∧∃ a c,∃ d:Nat,(y0.cell 8)=D.sl a 9 c d∧((0:Int)≤(1:Int)
 ∧ 1<(c.length:Int))∧∀ a,N≤a→ACalls prog 105 [.ag 9] [.dg 9 (List.getD b 0 default),.str s,.dg 9 (List.getD c 1 default)] a (fun b c
 => a≤c→Bel c b→∀ a,c≤a→Q b 3 a)) (Br (a==9) (∃ a b,∃ c:Nat,(y2.cell 8)=D.sl a 9 b c∧((0:Int)≤(0:Int)
 ∧ 0<(b.length:Int))∧∃ a,(y2.cell 1)=D.lit (.string a)∧∃ c,(y2.cell 2)=D.lit (.string c)∧∃ d e,∃ f:Nat,(y0.cell 8)=D.sl d
 9 e f∧((0:Int)≤(1:Int)∧1<(e.length:Int))∧∀ d,N≤d→ACalls prog 105 [.ag 9] [.dg 9 (List.getD b 0 default),.str a,.dg 9 y2]
 d (fun a b=>d≤b→Bel b a→∀ d,b≤d→ACalls prog 105 [.ag 9] [.dg 9 a,.str c,.dg 9 (List.getD e 1 default)] d (fun
 a b=>d≤b→Bel b a→∀ c,b≤c→Q a 4 c))) (∀ a,N≤a→Q y0 0 a)))):wB Q N0 n5 y0 n1_0 s1_1 s1_2 n1_3 n1_4 a1_5 e1_5 c1_5 n1_6 a1_7 e1_7 c1_7 a1_8 e1_8 c1_8 y2 N:=
  hE (H:=qN) (by kernel_rfl) h
theorem tz (Q:QT [.ag 9,.int .i64]) (N0:Nat) (n4:Int) (m5 c5:Nat) (n9:Int) (y0:D) (n1_0:Int) (s1_1 s1_2:ByteArray) (n1_3 n1_4:Int) (a1_5:Option Addr) (e1_5:List D) (c1_5:Nat) (n1_6:Int) (a1_7:Option Addr) (e1_7:List D) (c1_7:Nat) (a1_8:Option Addr) (e1_8:List D) (c1_8:Nat) (r2:List D) (q2:Nat) (N:Nat) (h :
∃ a d,∃ c:Nat,(y0.cell 8)=D.sl a 9 d c∧Br (decide (n9<(d.length:Int))) (∃ a b,∃ c:Nat,(y0.cell 8)=D.sl a 9 b c∧(0≤n9∧n9
 < (b.length:Int))∧∃ n:Int,(if 0=0 then D.cell (List.getD b n9.toNat default) 0 else D.sub (List.getD b n9.toNat default) 0 0)=D.lit (.int .i64
 n)∧Br (bne n n4) (∀ a,N≤a→Q y0 0 a) (∃ a b,∃ c:Nat,(y0.cell 8)=D.sl a 9 b c∧(0≤n9∧n9<(b.length:Int))∧∃ a:Int,
 (if 0=0 then D.cell (List.getD b n9.toNat default) 3 else D.sub (List.getD b n9.toNat default) 3 0)=D.lit (.int .i64 a)∧(0≤n9∧n9<(m5:Int) ∧
 (0+n9.toNat:Nat)<r2.length)∧(0+n9.toNat:Nat)<r2.length∧yu Q N0 n4 m5 c5 (IntKind.i64.wrap (n9+1)) y0 n1_0 s1_1 s1_2 n1_3 n1_4 a1_5
 e1_5 c1_5 n1_6 a1_7 e1_7 c1_7 a1_8 e1_8 c1_8 (List.set r2 (0+n9.toNat:Nat) (D.lit (.int .i64 a))) q2 N)) (∃ s,(y0.cell 1)=D.lit (.string s)∧((0:Int)
 ≤ (0:Int)∧0<(m5:Int)∧0<r2.length)∧0<r2.length∧∃ a:Int,List.getD r2 0 default=D.lit (.int .i64 a)∧((0:Int)≤(1:Int)∧1<(m5 :
 Int)∧1<r2.length)∧1<r2.length∧∃ c:Int,List.getD r2 1 default=D.lit (.int .i64 c)∧∀ d,N≤d→ACalls prog 102 [.int .i64,.bool] [.str s,
 .int .i64 a,.int .i64 c] d (fun a _ b=>d≤b→∃ c,(y0.cell 1)=D.lit (.string c)∧Br (ByteArray.toList c==ByteArray.toList (bytes [43]))
 (∀ c,b≤c→ACalls prog 103 [.ag 9] [.int .i64 a] c (fun x a=>c≤a→Bel a x→∀ b,a≤b→Q x 1 b)) (∃ c,(y0.cell 1)=D.lit
 (.string c)∧Br (ByteArray.toList c==ByteArray.toList (bytes [45])) (∀ c,b≤c→ACalls prog 103 [.ag 9] [.int .i64 a] c (fun a b=>c ≤
 b→Bel b a→∀ c,b≤c→Q a 1 c)) (∃ c,(y0.cell 1)=D.lit (.string c)∧Br (ByteArray.toList c==ByteArray.toList (bytes [42])) (∀ c,
 b≤c→ACalls prog 103 [.ag 9] [.int .i64 a] c (fun a b=>c≤b→Bel b a→∀ c,b≤c→Q a 1 c)) (∀ c,b≤c
 → ACalls prog 104 [.ag 9] [.int .i64 a] c (fun a b=>c≤b→Bel b a→∀ c,b≤c→Q a 1 c))))))):yu Q N0 n4 m5 c5 n9 y0 n1_0 s1_1 s1_2 n1_3 n1_4 a1_5 e1_5 c1_5 n1_6 a1_7 e1_7 c1_7 a1_8 e1_8 c1_8 r2 q2 N:=
  hE (H:=sX) (by kernel_rfl) h
end Go.Proofs.YtnpjpplbkoammaaGreatDoor
