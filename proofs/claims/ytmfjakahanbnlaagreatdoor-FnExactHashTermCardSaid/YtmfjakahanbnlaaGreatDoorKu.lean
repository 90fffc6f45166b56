/- Printed by gen.py: what the functions come to. -/
import Derived.Test.YtmfjakahanbnlaaGreatDoorJh
set_option linter.unusedVariables false
set_option maxRecDepth 100000
namespace Go.Proofs.YtmfjakahanbnlaaGreatDoor
open Go Go.Proofs Go.Proofs.Tryz
def ru:Hint:=⟨[],[],[(1,[en 0,en 1,en 2,en 3,en 4,en 5,en 6,en 7,en 8,en 9,en 11,en 12,en 14,ec 10 [14],ec 13 [17],en 15,eh 16])]⟩
def wa:Hint:=⟨[hc 3 [1,2,4,5,10,11,12] [(5,35,9)]],[],[(5,hs 7 [{ i:=3,hard:=true,cl:=[18],fs:=[5,18] },{ i:=4,hard:=true,cl:=[19],fs:=[5,19] }]),(7,hs 4 [{ i:=2,hard:=true,cl:=[23],fs:=[5,23] }])]⟩
def pC:Hint:=⟨[],[],[(1,hs 3 [ec 1 [3]])]⟩
def zq (Q:QT [.pk,.int .i64,.str,.str,.int .i64,.dc,.dc,.dc,.dc,.row 35 9]) (N0:Nat) (m5 c5:Nat) (a10:Option Addr) (e10:List D) (c10:Nat) (n11 n12:Int) (y0:D) (n1_0:Int) (s1_1 s1_2:ByteArray) (n1_3 n1_4:Int) (a1_5:Option Addr) (e1_5:List D) (c1_5:Nat) (n1_6:Int) (a1_7:Option Addr) (e1_7:List D) (c1_7:Nat) (a1_8:Option Addr) (e1_8:List D) (c1_8:Nat) (r2:List D) (q2:Nat) (N:Nat):Prop:=AT prog 160 [.pk,.int .i64,.str,.str,.int .i64,.dc,.dc,.dc,.dc,.row 35 9] Q N0 .ord (zF prog 160 3) ⟨an 1 (.fn 101 []::.pb 0 0 0 0::an 1 (.pb 1 0 0 0::.sb 2 9 0 m5 c5::an 4 (.sv a10 9 e10 c10::.int .i64 n11::.int .i64 n12::an 13 []))),[.vd y0 9,.var [.int .i64 n1_0,.str s1_1,.str s1_2,.int .i64 n1_3,.int .i64 n1_4,.sv a1_5 2 e1_5 c1_5,.int .i64 n1_6,.sv a1_7 2 e1_7 c1_7,.sv a1_8 9 e1_8 c1_8],.arr 35 9 r2 q2],N,none⟩
theorem rv (N:Nat) (x0:D) (a1:Option Addr) (e1:List D) (c1:Nat) (Q:QT [.pk,.int .i64,.str,.str,.int .i64,.dc,.dc,.dc,.dc,.bk 1]) (h :
Bel N x0->Bel N (D.sl a1 9 e1 c1)->∃ n:Int,(x0.cell 0)=D.lit (.int .i64 n)/\∃ s,(x0.cell 1)=D.lit (.string s)/\∃ a,(x0.cell 2)=D.lit (.string a)
 /\ ∃ b:Int,(x0.cell 3)=D.lit (.int .i64 b)/\∀ c,N<=c->ACalls prog 226 [.ag 2] [.dg 2 (D.sub x0 4 2)] c (fun x d=>c<=d->Bel d x->∀
 c,d<=c->ACalls prog 226 [.ag 2] [.dg 2 (D.sub x0 6 2)] c (fun d e=>c<=e->Bel e d->∀ c,e<=c->Q n s a b (x.cell 0) (x.cell
 1) (d.cell 0) (d.cell 1) (D.sl a1 9 e1 c1) c))):ACalls prog 164 [.pk,.int .i64,.str,.str,.int .i64,.dc,.dc,.dc,.dc,.bk 1] [PV.dg 9 x0,PV.sv a1 9 e1 c1] N Q:=
  eE (H:=ru) (by kernel_rfl) (by kernel_rfl) h
theorem pX (N:Nat) (x0:D) (Q:QT [.pk,.int .i64,.str,.str,.int .i64,.dc,.dc,.dc,.dc,.row 35 9]) (h :
Bel N x0->∀ a,N<=a->ACalls prog 160 [Sh.pk,.int .i64,.str,.str,.int .i64,Sh.dc,Sh.dc,Sh.dc,Sh.dc,.row (OfNat.ofNat 35) 9] [.dg 9 x0,.fn 101 []]
 a (fun n s b c x d e f g h i=>a<=i->Bel i (D.ag g)->(g.length=g.length/\h=h)/\∀ a,i<=a->Q n s b c x d e f g
 h a)):ACalls prog 101 [.pk,.int .i64,.str,.str,.int .i64,.dc,.dc,.dc,.dc,.row 35 9] [PV.dg 9 x0] N Q:=
  eE (H:=pC) (by kernel_rfl) (by kernel_rfl) h
theorem v6 (N:Nat) (x0:D) (Q:QT [.pk,.int .i64,.str,.str,.int .i64,.dc,.dc,.dc,.dc,.row 35 9]) (h :
Bel N x0->∃ a b,∃ c:Nat,(x0.cell 8)=D.sl a 9 b c/\zq Q N 0 0 a b c (b.length:Int) 0 x0 0 (bytes []) (bytes []) 0 0 Option.none []
 0 0 Option.none [] 0 Option.none [] 0 [] 0 N):ACalls prog 160 [.pk,.int .i64,.str,.str,.int .i64,.dc,.dc,.dc,.dc,.row 35 9] [.dg 9 x0,.fn 101 []] N Q:=
  eE (H:=wa) (by kernel_rfl) (by kernel_rfl) h
theorem xp (Q:QT [.pk,.int .i64,.str,.str,.int .i64,.dc,.dc,.dc,.dc,.row 35 9]) (N0:Nat) (m5 c5:Nat) (a10:Option Addr) (e10:List D) (c10:Nat) (n11 n12:Int) (y0:D) (n1_0:Int) (s1_1 s1_2:ByteArray) (n1_3 n1_4:Int) (a1_5:Option Addr) (e1_5:List D) (c1_5:Nat) (n1_6:Int) (a1_7:Option Addr) (e1_7:List D) (c1_7:Nat) (a1_8:Option Addr) (e1_8:List D) (c1_8:Nat) (r2:List D) (q2:Nat) (N:Nat) (h :
Br (decide (n12<n11)) ((0<=n12/\n12<(e10.length:Int))/\∀ b,N<=b->ACalls prog 101 [Sh.pk,.int .i64,.str,.str,.int .i64,Sh.dc,Sh.dc,Sh.dc,Sh.dc,
 .row (OfNat.ofNat 35) 9] [.dg 9 (List.getD e10 n12.toNat default)] b (fun n s c d x e f g h i j=>b<=j->Bel j (D.ag h)->(h.length=h.length
 /\ i=i)/\∀ a b,j<=b->Fresh N0 b a [D.ag h,x,e,f,g,D.ag r2]->(m5=r2.length/\c5=q2)/\zC r2 [D.ag [D.lit (.int .i64 n),D.lit (.string
 s),D.lit (.string c),D.lit (.int .i64 d),x,e,f,g,D.sl a 9 h i]] 136/\∀ (j:Nat),zq Q N0 (r2++[D.ag [D.lit (.int .i64 n),
 D.lit (.string s),D.lit (.string c),D.lit (.int .i64 d),x,e,f,g,D.sl a 9 h i]]).length j a10 e10 c10 n11 (IntKind.i64.wrap (n12+1)) y0 n1_0
 s1_1 s1_2 n1_3 n1_4 a1_5 e1_5 c1_5 n1_6 a1_7 e1_7 c1_7 a1_8 e1_8 c1_8 (r2++[D.ag [D.lit (.int .i64 n),D.lit (.string s),D.lit (.string c),D.lit (.int .i64
 d),x,e,f,g,D.sl a 9 h i]]) j b)) ((m5=r2.length/\c5=q2)/\∀ a,ApA a r2->Off [a] y0->∀ b,N<=b->rx b [a]->ACalls prog
 164 [Sh.pk,.int .i64,.str,.str,.int .i64,Sh.dc,Sh.dc,Sh.dc,Sh.dc,Sh.bk 1] [.dg 9 y0,.sv a 9 r2 c5] b (fun c d e f g h i j k l=>
 b<=l->k=D.sl a 9 r2 c5/\Off [a] g/\Off [a] h/\Off [a] i/\Off [a] j/\(m5=r2.length/\c5=q2)/\∀ a,l<=a->Q c d e
 f g h i j r2 c5 a))):zq Q N0 m5 c5 a10 e10 c10 n11 n12 y0 n1_0 s1_1 s1_2 n1_3 n1_4 a1_5 e1_5 c1_5 n1_6 a1_7 e1_7 c1_7 a1_8 e1_8 c1_8 r2 q2 N:=
  hE (H:=wa) (by kernel_rfl) h
end Go.Proofs.YtmfjakahanbnlaaGreatDoor
set_option maxRecDepth 100000
namespace Go.Proofs.YtmfjakahanbnlaaGreatDoor
open Go Go.Proofs Go.Proofs.Tryz
def zCb:Hint:=⟨[],[],[]⟩
def xN:Hint:=⟨[hc 2 [0,1,7,8]],[],[]⟩
def y6:Hint:=⟨[hc 5 [0,1,5,6]],[],[(12,hs 4 [{ i:=2,hard:=true,tr:=true }])]⟩
def sf:Hint:=⟨[],[],[]⟩
def v7:Hint:=⟨[hc 6 [3,4,5,22,23,24]],[],[(3,hs 8 [ec 1 [16]]),(8,hs 3 [ec 1 [29]])]⟩
def sS:Hint:=⟨[],[],[(5,hs 10 [{ i:=8,hard:=true,tr:=true }])]⟩
def yY:Hint:=⟨[hc 3 [0,3,9,10,11],hc 11 [6,25,26,27] [(6,9,0)]],[],[]⟩
def wv:Hint:=⟨[hc 3 [5,12,13,14] [(5,9,0)]],[],[]⟩
def rW:Hint:=⟨[hc 3 [0,1,5]],[],[]⟩
def rk:Hint:=⟨[],[],[]⟩
def zAV:Hint:=⟨[],[],[]⟩
def wl:Hint:=⟨[hc 3 [0,1,5,6] [(5,9,0)]],[],[]⟩
def xa:Hint:=⟨[hc 3 [0,1,5,6] [(5,9,0)],hc 8 [1,5,7] [(5,9,0)]],[],[]⟩
def wK:Hint:=⟨[hc 6 [1,3,4,5,6],hc 10 [1,3,4,5,6,7,8]],[],[(8,hs 7 [ec 5 [32]])]⟩
def vT:Hint:=⟨[hc 5 [0,3,4]],[],[]⟩
def yA (Q:QT [.row 9 0]) (N0:Nat) (n4:Int) (m5 c5:Nat) (a22:Option Addr) (e22:List D) (c22:Nat) (n23 n24:Int) (a0_0:Option Addr) (e0_0:List D) (c0_0:Nat) (r1:List D) (q1:Nat) (N:Nat):Prop:=AT prog 116 [.row 9 0] Q N0 .ord (zF prog 116 6) ⟨an 3 (.pb 0 0 0 0::.int .i64 n4::.sb 1 0 0 m5 c5::an 16 (.sv a22 9 e22 c22::.int .i64 n23::.int .i64 n24::an 17 [])),[.var [.sv a0_0 0 e0_0 c0_0],.arr 9 0 r1 q1],N,none⟩
def zj (Q:QT [.sl 0]) (N0:Nat) (a0:Option Addr) (e0:List D) (c0:Nat) (n3:Int) (a9:Option Addr) (e9:List D) (c9:Nat) (n10 n11:Int) (N:Nat):Prop:=AT prog 242 [.sl 0] Q N0 .ord (zF prog 242 3) ⟨.sv a0 0 e0 c0::an 2 (.int .i64 n3::an 5 (.sv a9 0 e9 c9::.int .i64 n10::.int .i64 n11::an 24 [])),[],N,none⟩
def zi (Q:QT [.row 9 0]) (N0:Nat) (m5 c5:Nat) (a12:Option Addr) (e12:List D) (c12:Nat) (n13 n14:Int) (r0:List D) (q0:Nat) (N:Nat):Prop:=AT prog 185 [.row 9 0] Q N0 .ord (zF prog 185 3) ⟨an 5 (.sb 0 0 0 m5 c5::an 6 (.sv a12 0 e12 c12::.int .i64 n13::.int .i64 n14::an 13 [])),[.arr 9 0 r0 q0],N,none⟩
def xf (Q:QT [.str]) (N0:Nat) (s0:ByteArray) (a1:Option Addr) (e1:List D) (c1:Nat) (n5:Int) (N:Nat):Prop:=AT prog 244 [.str] Q N0 .ord (zF prog 244 3) ⟨.str s0::.sv a1 0 e1 c1::an 3 (.int .i64 n5::an 12 []),[],N,none⟩
def zf (Q:QT [.sl 0]) (N0:Nat) (a0:Option Addr) (e0:List D) (c0:Nat) (s1:ByteArray) (m5 c5:Nat) (n6:Int) (r0:List D) (q0:Nat) (N:Nat):Prop:=AT prog 174 [.sl 0] Q N0 .ord (zF prog 174 3) ⟨.sv a0 0 e0 c0::.str s1::an 3 (.sb 0 0 0 m5 c5::.int .i64 n6::an 21 []),[.arr 9 0 r0 q0],N,none⟩
def zh (Q:QT [.row 9 0]) (N0:Nat) (a0:Option Addr) (e0:List D) (c0:Nat) (a1:Option Addr) (e1:List D) (c1 m5 c5:Nat) (n6:Int) (r0:List D) (q0:Nat) (N:Nat):Prop:=AT prog 175 [.row 9 0] Q N0 .ord (zF prog 175 3) ⟨.sv a0 0 e0 c0::.sv a1 0 e1 c1::an 3 (.sb 0 0 0 m5 c5::.int .i64 n6::an 43 []),[.arr 9 0 r0 q0],N,none⟩
def zV (Q:QT [.sl 0]) (N0:Nat) (a3:Option Addr) (e3:List D) (c3:Nat) (n4:Int) (m5 c5:Nat) (n6:Int) (y0:D) (r1:List D) (q1:Nat) (N:Nat):Prop:=AT prog 109 [.sl 0] Q N0 .ord (zF prog 109 6) ⟨an 1 (.pb 0 0 0 0::an 1 (.sv a3 0 e3 c3::.int .i64 n4::.sb 1 0 0 m5 c5::.int .i64 n6::an 48 [])),[.vd y0 9,.arr 9 0 r1 q1],N,none⟩
def zn (Q:QT [.str]) (N0:Nat) (n0:Int) (b3:Bool) (s4:ByteArray) (N:Nat):Prop:=AT prog 188 [.str] Q N0 .ord (zF prog 188 5) ⟨.int .i64 n0::an 2 (.bool b3::.str s4::an 26 []),[],N,none⟩
def zP (Q:QT [.sl 0]) (N0:Nat) (m6 c6:Nat) (a25:Option Addr) (e25:List D) (c25:Nat) (n26 n27:Int) (r0:List D) (q0:Nat) (N:Nat):Prop:=AT prog 242 [.sl 0] Q N0 .ord (zF prog 242 11) ⟨an 6 (.sb 0 0 0 m6 c6::an 18 (.sv a25 0 e25 c25::.int .i64 n26::.int .i64 n27::an 8 [])),[.arr 9 0 r0 q0],N,none⟩
def zW (Q:QT [.row 9 0]) (N0:Nat) (a1:Option Addr) (e1:List D) (c1 m5 c5:Nat) (n7:Int) (r0:List D) (q0:Nat) (N:Nat):Prop:=AT prog 175 [.row 9 0] Q N0 .ord (zF prog 175 8) ⟨an 1 (.sv a1 0 e1 c1::an 3 (.sb 0 0 0 m5 c5::an 1 (.int .i64 n7::an 42 []))),[.arr 9 0 r0 q0],N,none⟩
def zm (Q:QT [.sl 0]) (N0:Nat) (a3:Option Addr) (e3:List D) (c3:Nat) (n4:Int) (m5 c5:Nat) (n6:Int) (a7:Option Addr) (e7:List D) (c7:Nat) (n8:Int) (y0:D) (r1:List D) (q1:Nat) (N:Nat):Prop:=AT prog 109 [.sl 0] Q N0 .ord (zF prog 109 10) ⟨an 1 (.pb 0 0 0 0::an 1 (.sv a3 0 e3 c3::.int .i64 n4::.sb 1 0 0 m5 c5::.int .i64 n6::.sv a7 0 e7 c7::.int .i64 n8::an 46 [])),[.vd y0 9,.arr 9 0 r1 q1],N,none⟩
def zH (E:Env) (Q:QT [(Sh.bk 0),(Sh.sl 0),(Sh.sl 0)]) (N0:Nat) (m0 c0:Nat) (n5 n6:Int) (r0:List D) (q0:Nat) (a1_0:Option Addr) (e1_0:List D) (c1_0:Nat) (N:Nat):Prop:=AT prog 182 [(Sh.bk 0),(Sh.sl 0),(Sh.sl 0)] Q N0 (.io E [.arr 9 0 [] 0,.var [.sv none 0 [] 0]]) (zF prog 182 5) ⟨.sb 0 0 0 m0 c0::.fn 183 [.pb 1 0 0 0]::an 3 (.int .i64 n5::.int .i64 n6::an 35 []),[.arr 9 0 r0 q0,.var [.sv a1_0 0 e1_0 c1_0]],N,some (xz E 0 [.arr 9 0 [] 0,.var [.sv none 0 [] 0]],[])⟩
def za (Q:QT [.int .i64]) (N0:Nat) (a0:Option Addr) (e0:List D) (c0:Nat) (a1_0:Addr) (x1_0_:D) (n7 n8:Int) (N:Nat):Prop:=AT prog 240 [.int .i64] Q N0 .ord (zF prog 240 2) ⟨.sv a0 0 e0 c0::.fn 183 [.pd a1_0 0 x1_0_]::an 5 (.int .i64 n7::.int .i64 n8::an 10 []),[],N,none⟩
theorem zDA (N:Nat) (x0:D) (Q:QT [.sl 0,.int .i64]) (h :
Bel N x0->∃ n:Int,(x0.cell 0)=D.lit (.int .i64 n)/\Br (n==6) (∃ a b,∃ c:Nat,(x0.cell 8)=D.sl a 9 b c/\Br ((b.length:Int)==1) (∃ s,(x0.cell
 1)=D.lit (.string s)/\(1=([D.lit (.string s)]).length/\1=1)/\(1=([D.lit (.string s)]).length/\1=1)/\∀ a b,N<=b->Fresh N b a [D.ag [D.lit
 (.string s)]]->∀ c,b<=c->Q a [D.lit (.string s)] 1 0 c) (∃ a:Int,(x0.cell 0)=D.lit (.int .i64 a)/\Br (a==8) (∃ a b,∃ c:Nat,
 (x0.cell 8)=D.sl a 9 b c/\Br ((b.length:Int)==2) (∃ a,(x0.cell 1)=D.lit (.string a)/\(1=([D.lit (.string a)]).length/\1=1)/\(1 =
 ([D.lit (.string a)]).length/\1=1)/\∀ b c,N<=c->Fresh N c b [D.ag [D.lit (.string a)]]->∀ d,c<=d->Q b [D.lit (.string a)] 1 1
 d) (∃ a:Int,(x0.cell 0)=D.lit (.int .i64 a)/\Br (a==9) (∃ a b,∃ c:Nat,(x0.cell 8)=D.sl a 9 b c/\Br ((b.length:Int)==1)
 (∃ a,(x0.cell 1)=D.lit (.string a)/\∃ b,(x0.cell 2)=D.lit (.string b)/\(2=([D.lit (.string a),D.lit (.string b)]).length/\2=2)/\(2=([D.lit
 (.string a),D.lit (.string b)]).length/\2=2)/\∀ c d,N<=d->Fresh N d c [D.ag [D.lit (.string a),D.lit (.string b)]]->∀ e,d<=e
 -> Q c [D.lit (.string a),D.lit (.string b)] 2 0 e) (∀ a,N<=a->Q Option.none [] 0 (-1) a)) (∀ a,N<=a->Q Option.none [] 0 (-1) a))) (∃ a
 : Int,(x0.cell 0)=D.lit (.int .i64 a)/\Br (a==9) (∃ a b,∃ c:Nat,(x0.cell 8)=D.sl a 9 b c/\Br ((b.length:Int)==1) (∃ a,(x0.cell
 1)=D.lit (.string a)/\∃ b,(x0.cell 2)=D.lit (.string b)/\(2=([D.lit (.string a),D.lit (.string b)]).length/\2=2)/\(2=([D.lit (.string a),
 D.lit (.string b)]).length/\2=2)/\∀ c d,N<=d->Fresh N d c [D.ag [D.lit (.string a),D.lit (.string b)]]->∀ e,d<=e->Q c [D.lit
 (.string a),D.lit (.string b)] 2 0 e) (∀ a,N<=a->Q Option.none [] 0 (-1) a)) (∀ a,N<=a->Q Option.none [] 0 (-1) a)))) (∃ a:Int,
 (x0.cell 0)=D.lit (.int .i64 a)/\Br (a==8) (∃ a b,∃ c:Nat,(x0.cell 8)=D.sl a 9 b c/\Br ((b.length:Int)==2) (∃ a,(x0.cell
 1)=D.lit (.string a)/\(1=([D.lit (.string a)]).length/\1=1)/\(1=([D.lit (.string a)]).length/\1=1)/\∀ b c,N<=c->Fresh N c b
 [D.ag [D.lit (.string a)]]->∀ d,c<=d->Q b [D.lit (.string a)] 1 1 d) (∃ a:Int,(x0.cell 0)=D.lit (.int .i64 a)/\Br (a==9) (∃ a
 b,∃ c:Nat,(x0.cell 8)=D.sl a 9 b c/\Br ((b.length:Int)==1) (∃ a,(x0.cell 1)=D.lit (.string a)/\∃ b,(x0.cell 2)=D.lit (.string
 b)/\(2=([D.lit (.string a),D.lit (.string b)]).length/\2=2)/\(2=([D.lit (.string a),D.lit (.string b)]).length/\2=2)/\∀ c d,N<=d
 -> Fresh N d c [D.ag [D.lit (.string a),D.lit (.string b)]]->∀ e,d<=e->Q c [D.lit (.string a),D.lit (.string b)] 2 0 e) (∀ a,
 N<=a->Q Option.none [] 0 (-1) a)) (∀ a,N<=a->Q Option.none [] 0 (-1) a))) (∃ a:Int,(x0.cell 0)=D.lit (.int .i64 a)/\Br (a==9) (∃
 a b,∃ c:Nat,(x0.cell 8)=D.sl a 9 b c/\Br ((b.length:Int)==1) (∃ a,(x0.cell 1)=D.lit (.string a)/\∃ b,(x0.cell 2)=D.lit
 (.string b)/\(2=([D.lit (.string a),D.lit (.string b)]).length/\2=2)/\(2=([D.lit (.string a),D.lit (.string b)]).length/\2=2)/\∀ c
 d,N<=d->Fresh N d c [D.ag [D.lit (.string a),D.lit (.string b)]]->∀ e,d<=e->Q c [D.lit (.string a),D.lit (.string b)]
 2 0 e) (∀ a,N<=a->Q Option.none [] 0 (-1) a)) (∀ a,N<=a->Q Option.none [] 0 (-1) a)))):ACalls prog 181 [.sl 0,.int .i64] [PV.dg 9 x0] N Q:=
  eE (H:=zCb) (by kernel_rfl) (by kernel_rfl) h
theorem qb (N:Nat) (x0:D) (Q:QT [.row 9 0]) (h :
Bel N x0->∃ n:Int,(x0.cell 0)=D.lit (.int .i64 n)/\Br (n==1) (∃ s,(x0.cell 1)=D.lit (.string s)/\(1=([D.lit (.string s)]).length/\1=1)/\∀ a,
 N<=a->Q [D.lit (.string s)] 1 a) (∀ b,N<=b->ACalls prog 181 [.sl 0,.int .i64] [.dg 9 x0] b (fun a c d e f=>b<=f->Bel f (D.sl a 0 c
 d)->∃ b g,∃ h:Nat,(x0.cell 8)=D.sl b 9 g h/\yA Q N e 0 0 b g h (g.length:Int) 0 a c d [] 0 f))):ACalls prog 116 [.row 9 0] [PV.dg 9 x0] N Q:=
  eE (H:=v7) (by kernel_rfl) (by kernel_rfl) h
theorem sI (N:Nat) (n1:Int) (Q:QT [.row 9 0]) (h :
Bel N (D.sl Option.none 0 [] 0)->Br (decide (n1<0)) False (Br (decide (IntKind.i64.wrap (n1 - 0)>0)) (((0:Int)<=(0:Int)/\(0:Int)<=(0:Int)/\(0 :
 Int)<=(0:Int))/\(0<=IntKind.i64.wrap (n1 - 0)/\(IntKind.i64.wrap (n1 - 0)*16)<=140737488355328/\IntKind.i64.wrap (n1 - 0)<=140737488355328)/\∀ (c:Nat),
 ((0:Int)<=(0:Int)/\0<=(c:Int))/\0<=(List.replicate (IntKind.i64.wrap (n1 - 0)).toNat (D.lit (.string (bytes [])))).length/\(0=(List.take 0 (List.replicate
 (IntKind.i64.wrap (n1 - 0)).toNat (D.lit (.string (bytes []))))).length/\c=c)/\∀ a,N<=a->Q (List.take 0 (List.replicate (IntKind.i64.wrap (n1 - 0)).toNat
 (D.lit (.string (bytes []))))) c a) (∀ a,N<=a->Q [] 0 a))):ACalls prog 278 [.row 9 0] [PV.sv none 0 [] 0,PV.int .i64 n1] N Q:=
  eE (H:=sS) (by kernel_rfl) (by kernel_rfl) h
theorem ur (N:Nat) (a0:Option Addr) (e0:List D) (c0:Nat) (Q:QT [.sl 0]) (h :
Bel N (D.sl a0 0 e0 c0)->zj Q N a0 e0 c0 0 a0 e0 c0 (e0.length:Int) 0 N):ACalls prog 242 [.sl 0] [PV.sv a0 0 e0 c0] N Q:=
 eE (H:=yY) (by kernel_rfl) (by kernel_rfl) h
theorem sZ (N:Nat) (a0:Option Addr) (e0:List D) (c0:Nat) (a1:Option Addr) (e1:List D) (c1:Nat) (Q:QT [.row 9 0]) (h :
Bel N (D.sl a0 0 e0 c0)->Bel N (D.sl a1 0 e1 c1)->(2=([D.sl a0 0 e0 c0,D.sl a1 0 e1 c1]).length/\2=2)/\∀ a,ApA a [D.sl a0 0 e0 c0,D.sl a1 0 e1 c1]->∀
 b,N<=b->rx b [a]->ACalls prog 242 [.sl 0] [.sv a 0 [D.sl a0 0 e0 c0,D.sl a1 0 e1 c1] 2] b (fun c d e f=>b<=f->Off [a] (D.sl c 0 d
 e)/\(Bel f (D.sl c 0 d e)->zi Q N 0 0 c d e (d.length:Int) 0 [] 0 f))):ACalls prog 185 [.row 9 0] [PV.sv a0 0 e0 c0,PV.sv a1 0 e1 c1] N Q:=
  eE (H:=wv) (by kernel_rfl) (by kernel_rfl) h
theorem zCW (N:Nat) (s0:ByteArray) (a1:Option Addr) (e1:List D) (c1:Nat) (Q:QT [.str]) (h :
Bel N (D.sl a1 0 e1 c1)->xf Q N s0 a1 e1 c1 1 N):ACalls prog 244 [.str] [PV.str s0,PV.sv a1 0 e1 c1] N Q:=
 eE (H:=rW) (by kernel_rfl) (by kernel_rfl) h
theorem rp (N:Nat) (n0:Int) (Q:QT [.str]) (h :
∀ a,N<=a->ACalls prog 246 [.str] [.int .i64 n0] a (fun s b=>a<=b->∀ a,b<=a->Q s a)):ACalls prog 190 [.str] [PV.int .i64 n0] N Q:=
  eE (H:=rk) (by kernel_rfl) (by kernel_rfl) h
theorem zAD (N:Nat) (x0:D) (Q:QT [.sl 0,.int .i64]) (h :
Bel N x0->∃ n:Int,(x0.cell 0)=D.lit (.int .i64 n)/\Br (n==6) (∃ a b,∃ c:Nat,(x0.cell 8)=D.sl a 9 b c/\Br ((b.length:Int)==1) (∃ s,(x0.cell
 1)=D.lit (.string s)/\(1=([D.lit (.string s)]).length/\1=1)/\(1=([D.lit (.string s)]).length/\1=1)/\∀ a b,N<=b->Fresh N b a [D.ag [D.lit
 (.string s)]]->∀ c,b<=c->Q a [D.lit (.string s)] 1 0 c) (∃ a:Int,(x0.cell 0)=D.lit (.int .i64 a)/\Br (a==8) (∃ a b,∃ c:Nat,
 (x0.cell 8)=D.sl a 9 b c/\Br ((b.length:Int)==2) (∃ a,(x0.cell 1)=D.lit (.string a)/\(1=([D.lit (.string a)]).length/\1=1)/\(1 =
 ([D.lit (.string a)]).length/\1=1)/\∀ b c,N<=c->Fresh N c b [D.ag [D.lit (.string a)]]->∀ d,c<=d->Q b [D.lit (.string a)] 1 1
 d) (∃ a:Int,(x0.cell 0)=D.lit (.int .i64 a)/\Br (a==9) (∃ a b,∃ c:Nat,(x0.cell 8)=D.sl a 9 b c/\Br ((b.length:Int)==1)
 (∃ a,(x0.cell 1)=D.lit (.string a)/\∃ b,(x0.cell 2)=D.lit (.string b)/\(2=([D.lit (.string a),D.lit (.string b)]).length/\2=2)/\(2=([D.lit
 (.string a),D.lit (.string b)]).length/\2=2)/\∀ c d,N<=d->Fresh N d c [D.ag [D.lit (.string a),D.lit (.string b)]]->∀ e,d<=e
 -> Q c [D.lit (.string a),D.lit (.string b)] 2 0 e) ((0=0/\0=0)/\(0=0/\0=0)/\∀ a b,N<=b->Fresh N b a [D.ag []]->∀ c,b<=c
 -> Q a [] 0 (-1) c)) ((0=0/\0=0)/\(0=0/\0=0)/\∀ a b,N<=b->Fresh N b a [D.ag []]->∀ c,b<=c->Q a [] 0 (-1) c))) (∃ a
 : Int,(x0.cell 0)=D.lit (.int .i64 a)/\Br (a==9) (∃ a b,∃ c:Nat,(x0.cell 8)=D.sl a 9 b c/\Br ((b.length:Int)==1) (∃ a,(x0.cell
 1)=D.lit (.string a)/\∃ b,(x0.cell 2)=D.lit (.string b)/\(2=([D.lit (.string a),D.lit (.string b)]).length/\2=2)/\(2=([D.lit (.string a),
 D.lit (.string b)]).length/\2=2)/\∀ c d,N<=d->Fresh N d c [D.ag [D.lit (.string a),D.lit (.string b)]]->∀ e,d<=e->Q c [D.lit
 (.string a),D.lit (.string b)] 2 0 e) ((0=0/\0=0)/\(0=0/\0=0)/\∀ a b,N<=b->Fresh N b a [D.ag []]->∀ c,b<=c->Q
 a [] 0 (-1) c)) ((0=0/\0=0)/\(0=0/\0=0)/\∀ a b,N<=b->Fresh N b a [D.ag []]->∀ c,b<=c->Q a [] 0 (-1) c))))
 (∃ a:Int,(x0.cell 0)=D.lit (.int .i64 a)/\Br (a==8) (∃ a b,∃ c:Nat,(x0.cell 8)=D.sl a 9 b c/\Br ((b.length:Int)==2) (∃
 a,(x0.cell 1)=D.lit (.string a)/\(1=([D.lit (.string a)]).length/\1=1)/\(1=([D.lit (.string a)]).length/\1=1)/\∀ b c,N<=c->Fresh
 N c b [D.ag [D.lit (.string a)]]->∀ d,c<=d->Q b [D.lit (.string a)] 1 1 d) (∃ a:Int,(x0.cell 0)=D.lit (.int .i64 a)/\Br (a
 == 9) (∃ a b,∃ c:Nat,(x0.cell 8)=D.sl a 9 b c/\Br ((b.length:Int)==1) (∃ a,(x0.cell 1)=D.lit (.string a)/\∃ b,(x0.cell 2)
 = D.lit (.string b)/\(2=([D.lit (.string a),D.lit (.string b)]).length/\2=2)/\(2=([D.lit (.string a),D.lit (.string b)]).length/\2=2)/\∀
 c d,N<=d->Fresh N d c [D.ag [D.lit (.string a),D.lit (.string b)]]->∀ e,d<=e->Q c [D.lit (.string a),D.lit (.string b)]
 2 0 e) ((0=0/\0=0)/\(0=0/\0=0)/\∀ a b,N<=b->Fresh N b a [D.ag []]->∀ c,b<=c->Q a [] 0 (-1) c)) ((0=0/\0 =
 0)/\(0=0/\0=0)/\∀ a b,N<=b->Fresh N b a [D.ag []]->∀ c,b<=c->Q a [] 0 (-1) c))) (∃ a:Int,(x0.cell 0)=D.lit (.int
 .i64 a)/\Br (a==9) (∃ a b,∃ c:Nat,(x0.cell 8)=D.sl a 9 b c/\Br ((b.length:Int)==1) (∃ a,(x0.cell 1)=D.lit (.string a)
 /\ ∃ b,(x0.cell 2)=D.lit (.string b)/\(2=([D.lit (.string a),D.lit (.string b)]).length/\2=2)/\(2=([D.lit (.string a),D.lit (.string b)]).length
 /\ 2=2)/\∀ c d,N<=d->Fresh N d c [D.ag [D.lit (.string a),D.lit (.string b)]]->∀ e,d<=e->Q c [D.lit (.string a),D.lit
 (.string b)] 2 0 e) ((0=0/\0=0)/\(0=0/\0=0)/\∀ a b,N<=b->Fresh N b a [D.ag []]->∀ c,b<=c->Q a [] 0 (-1) c))
 ((0=0/\0=0)/\(0=0/\0=0)/\∀ a b,N<=b->Fresh N b a [D.ag []]->∀ c,b<=c->Q a [] 0 (-1) c)))):ACalls prog 172 [.sl 0,.int .i64] [PV.dg 9 x0] N Q:=
  eE (H:=zAV) (by kernel_rfl) (by kernel_rfl) h
theorem tv (N:Nat) (a0:Option Addr) (e0:List D) (c0:Nat) (s1:ByteArray) (Q:QT [.sl 0]) (h :
Bel N (D.sl a0 0 e0 c0)->zf Q N a0 e0 c0 s1 0 0 0 [] 0 N):ACalls prog 174 [.sl 0] [PV.sv a0 0 e0 c0,PV.str s1] N Q:=
 eE (H:=wl) (by kernel_rfl) (by kernel_rfl) h
theorem rG (N:Nat) (a0:Option Addr) (e0:List D) (c0:Nat) (a1:Option Addr) (e1:List D) (c1:Nat) (Q:QT [.row 9 0]) (h :
Bel N (D.sl a0 0 e0 c0)->Bel N (D.sl a1 0 e1 c1)->zh Q N a0 e0 c0 a1 e1 c1 0 0 0 [] 0 N):ACalls prog 175 [.row 9 0] [PV.sv a0 0 e0 c0,PV.sv a1 0 e1 c1] N Q:=
 eE (H:=xa) (by kernel_rfl) (by kernel_rfl) h
theorem pi (N:Nat) (x0:D) (Q:QT [.sl 0]) (h :
Bel N x0->∃ n:Int,(x0.cell 0)=D.lit (.int .i64 n)/\Br (n==1) (∃ s,(x0.cell 1)=D.lit (.string s)/\(1=([D.lit (.string s)]).length/\1=1)/\(1=([D.lit
 (.string s)]).length/\1=1)/\∀ a b,N<=b->Fresh N b a [D.ag [D.lit (.string s)]]->∀ c,b<=c->Q a [D.lit (.string s)] 1 c) (∀ a,N<=a ->
 ACalls prog 172 [.sl 0,.int .i64] [.dg 9 x0] a (fun b c d e f=>a<=f->Bel f (D.sl b 0 c d)->zV Q N b c d e 0 0 0 x0 []
 0 f))):ACalls prog 109 [.sl 0] [PV.dg 9 x0] N Q:=
  eE (H:=wK) (by kernel_rfl) (by kernel_rfl) h
theorem rj (N:Nat) (n0:Int) (Q:QT [.str]) (h :
Br (n0==0) (∀ a,N<=a->Q (bytes [48]) a) (zn Q N n0 (decide (n0<0)) (bytes []) N)):ACalls prog 188 [.str] [PV.int .i64 n0] N Q:=
 eE (H:=vT) (by kernel_rfl) (by kernel_rfl) h
theorem ww (Q:QT [.row 9 0]) (N0:Nat) (n4:Int) (m5 c5:Nat) (a22:Option Addr) (e22:List D) (c22:Nat) (n23 n24:Int) (a0_0:Option Addr) (e0_0:List D) (c0_0:Nat) (r1:List D) (q1:Nat) (N:Nat) (h :
Br (decide (n24<n23)) ((0<=n24/\n24<(e22.length:Int))/\∀ b,N<=b->ACalls prog 116 [.row (OfNat.ofNat 9) 0] [.dg 9 (List.getD e22 n24.toNat default)]
 b (fun c d e=>b<=e->Bel e (D.ag c)->Br (n24==n4) (∀ b,e<=b->BCalls prog 182 [Sh.bk 0,.sl 0,.sl 0] [.sb 0 0 0 c.length d,.fn 183 [.pb
 1 0 0 0]] [Bx.arr 9 0 c d,Bx.var [.sv a0_0 0 e0_0 c0_0]] b (fun _ a c d e f g h=>b<=h->Bel h (D.sl a 0 c d)->Bel h (D.sl e
 0 f g)->(m5=r1.length/\c5=q1)/\∀ a,ApA a r1->(c.length=c.length/\d=d)/\∀ b,ApA b c->∀ i,h<=i->rx i [a,
 b]->ACalls prog 185 [.row (OfNat.ofNat 9) 0] [.sv a 0 r1 c5,.sv b 0 c d] i (fun c d h=>i<=h->Off [a,b] (D.ag c)/\(Bel h
 (D.ag c)->yA Q N0 n4 c.length d a22 e22 c22 n23 (IntKind.i64.wrap (n24+1)) e f g c d h)))) ((m5=r1.length/\c5=q1) /\
 ∀ a,ApA a r1->(c.length=c.length/\d=d)/\∀ b,ApA b c->∀ f,e<=f->rx f [a,b]->ACalls prog 185 [.row (OfNat.ofNat 9) 0] [.sv
 a 0 r1 c5,.sv b 0 c d] f (fun c d e=>f<=e->Off [a,b] (D.ag c)/\(Bel e (D.ag c)->yA Q N0 n4 c.length d a22
 e22 c22 n23 (IntKind.i64.wrap (n24+1)) a0_0 e0_0 c0_0 c d e))))) ((m5=r1.length/\c5=q1)/\∀ a,N<=a->Q r1 c5 a)):yA Q N0 n4 m5 c5 a22 e22 c22 n23 n24 a0_0 e0_0 c0_0 r1 q1 N:=
  hE (H:=v7) (by kernel_rfl) h
theorem xT (Q:QT [.sl 0]) (N0:Nat) (a0:Option Addr) (e0:List D) (c0:Nat) (n3:Int) (a9:Option Addr) (e9:List D) (c9:Nat) (n10 n11:Int) (N:Nat) (h :
Br (decide (n11<n10)) ((0<=n11/\n11<(e9.length:Int))/\∃ a b,∃ c:Nat,List.getD e9 n11.toNat default=D.sl a 0 b c/\Br (decide (IntKind.i64.wrap (n3
 + (b.length:Int))<0)) False (zj Q N0 a0 e0 c0 (IntKind.i64.wrap (n3+(b.length:Int))) a9 e9 c9 n10 (IntKind.i64.wrap (n11+1)) N))
 (∀ a,N<=a->ACalls prog 278 [.row (OfNat.ofNat 9) 0] [.sv Option.none 0 [] 0,.int .i64 n3] a (fun b c d=>a<=d->Bel d (D.ag b)->zP
 Q N0 b.length c a0 e0 c0 (e0.length:Int) 0 b c d))):zj Q N0 a0 e0 c0 n3 a9 e9 c9 n10 n11 N:=
  hE (H:=yY) (by kernel_rfl) h
theorem wQ (Q:QT [.row 9 0]) (N0:Nat) (m5 c5:Nat) (a12:Option Addr) (e12:List D) (c12:Nat) (n13 n14:Int) (r0:List D) (q0:Nat) (N:Nat) (h :
Br (decide (n14<n13)) ((0<=n14/\n14<(e12.length:Int))/\∃ s,List.getD e12 n14.toNat default=D.lit (.string s)/\(m5=r0.length/\c5=q0)/\∀ a,ApA
 a r0->∀ d,N<=d->rx d [a]->ACalls prog 184 [.bool] [.sv a 0 r0 c5,.str s] d (fun b a=>d<=a->Br (!b) ((m5=r0.length/\c5=q0)/\zC
 r0 [D.lit (.string s)] 16/\∀ (c:Nat),zi Q N0 (r0++[D.lit (.string s)]).length c a12 e12 c12 n13 (IntKind.i64.wrap (n14+1)) (r0++[D.lit
 (.string s)]) c a) (zi Q N0 m5 c5 a12 e12 c12 n13 (IntKind.i64.wrap (n14+1)) r0 q0 a))) ((m5=r0.length/\c5=q0)/\∀ a,N<=a->Q r0
 c5 a)):zi Q N0 m5 c5 a12 e12 c12 n13 n14 r0 q0 N:=
  hE (H:=wv) (by kernel_rfl) h
theorem zAH (Q:QT [.str]) (N0:Nat) (s0:ByteArray) (a1:Option Addr) (e1:List D) (c1:Nat) (n5:Int) (N:Nat) (h :
∀ a,N<=a->ACalls prog 190 [.str] [.int .i64 n5] a (fun s c=>a<=c->(s0.size+s.size:Nat)<=9223372036854775807/\∀ a,c<=a->ACalls prog
 184 [.bool] [.sv a1 0 e1 c1,.str (s0++s)] a (fun b c=>a<=c->Br (!b) (∀ a,c<=a->Q (s0++s) a) (xf Q N0 s0 a1 e1 c1 (IntKind.i64.wrap
 (n5+1)) c)))):xf Q N0 s0 a1 e1 c1 n5 N:=
  hE (H:=rW) (by kernel_rfl) h
theorem xu (Q:QT [.sl 0]) (N0:Nat) (a0:Option Addr) (e0:List D) (c0:Nat) (s1:ByteArray) (m5 c5:Nat) (n6:Int) (r0:List D) (q0:Nat) (N:Nat) (h :
Br (decide (n6<(e0.length:Int))) ((0<=n6/\n6<(e0.length:Int))/\∃ s,List.getD e0 n6.toNat default=D.lit (.string s)/\Br (!(ByteArray.toList s==ByteArray.toList
 s1)) ((0<=n6/\n6<(e0.length:Int))/\∃ a,List.getD e0 n6.toNat default=D.lit (.string a)/\(m5=r0.length/\c5=q0)/\zC r0 [D.lit (.string a)]
 16/\∀ (c:Nat),zf Q N0 a0 e0 c0 s1 (r0++[D.lit (.string a)]).length c (IntKind.i64.wrap (n6+1)) (r0++[D.lit (.string a)]) c N) (zf
 Q N0 a0 e0 c0 s1 m5 c5 (IntKind.i64.wrap (n6+1)) r0 q0 N)) ((m5=r0.length/\c5=q0)/\(m5=r0.length/\c5=q0)/\(m5=r0.length/\c5=q0)/\∀ a b,N <=
 b->Fresh N0 b a [D.ag r0]->∀ c,b<=c->Q a r0 q0 c)):zf Q N0 a0 e0 c0 s1 m5 c5 n6 r0 q0 N:=
  hE (H:=wl) (by kernel_rfl) h
theorem wL (Q:QT [.row 9 0]) (N0:Nat) (a0:Option Addr) (e0:List D) (c0:Nat) (a1:Option Addr) (e1:List D) (c1 m5 c5:Nat) (n6:Int) (r0:List D) (q0:Nat) (N:Nat) (h :
Br (decide (n6<(e0.length:Int))) ((0<=n6/\n6<(e0.length:Int))/\∃ s,List.getD e0 n6.toNat default=D.lit (.string s)/\(m5=r0.length/\c5=q0)/\∀
 a,ApA a r0->∀ b,N<=b->rx b [a]->ACalls prog 234 [.int .i64] [.sv a 0 r0 c5,.str s] b (fun n a=>b<=a->Br (decide (n<0)) ((0<=n6/\n6
 < (e0.length:Int))/\∃ b,List.getD e0 n6.toNat default=D.lit (.string b)/\(m5=r0.length/\c5=q0)/\zC r0 [D.lit (.string b)] 16/\∀ (c:Nat),
 zh Q N0 a0 e0 c0 a1 e1 c1 (r0++[D.lit (.string b)]).length c (IntKind.i64.wrap (n6+1)) (r0++[D.lit (.string b)]) c a) (zh
 Q N0 a0 e0 c0 a1 e1 c1 m5 c5 (IntKind.i64.wrap (n6+1)) r0 q0 a))) (zW Q N0 a1 e1 c1 m5 c5 0 r0 q0 N)):zh Q N0 a0 e0 c0 a1 e1 c1 m5 c5 n6 r0 q0 N:=
  hE (H:=xa) (by kernel_rfl) h
theorem wu (Q:QT [.sl 0]) (N0:Nat) (a3:Option Addr) (e3:List D) (c3:Nat) (n4:Int) (m5 c5:Nat) (n6:Int) (y0:D) (r1:List D) (q1:Nat) (N:Nat) (h :
∃ a b,∃ c:Nat,(y0.cell 8)=D.sl a 9 b c/\Br (decide (n6<(b.length:Int))) (∃ a b,∃ c:Nat,(y0.cell 8)=D.sl a 9 b c/\(0<=n6/\n6
 < (b.length:Int))/\∀ a,N<=a->ACalls prog 109 [.sl 0] [.dg 9 (List.getD b n6.toNat default)] a (fun b c d e=>a<=e->Bel e (D.sl
 b 0 c d)->zm Q N0 a3 e3 c3 n4 m5 c5 n6 b c d 0 y0 r1 q1 e)) ((m5=r1.length/\c5=q1)/\(m5=r1.length/\c5=q1)/\(m5=r1.length
 /\ c5=q1)/\∀ a b,N<=b->Fresh N0 b a [D.ag r1]->∀ c,b<=c->Q a r1 q1 c)):zV Q N0 a3 e3 c3 n4 m5 c5 n6 y0 r1 q1 N:=
  hE (H:=wK) (by kernel_rfl) h
theorem tn (Q:QT [.str]) (N0:Nat) (n0:Int) (b3:Bool) (s4:ByteArray) (N:Nat) (h :
Br (bne n0 0) ((10:Int)≠(0:Int)/\Br (decide (Int.tmod n0 10<0)) (1<=([D.lit (.int IntKind.u8 (IntKind.u8.wrap (IntKind.i64.wrap (48+IntKind.i64.wrap
 (0 - Int.tmod n0 10)))))]).length/\∃ a:List Int,List.take 1 [D.lit (.int IntKind.u8 (IntKind.u8.wrap (IntKind.i64.wrap (48+IntKind.i64.wrap (0 - Int.tmod
 n0 10)))))]=List.map (fun n=>D.lit (.int IntKind.u8 n)) a/\(ByteArray.size (bytesOf a)+s4.size:Nat)<=9223372036854775807/\(10:Int)≠(0:Int)/\zn
 Q N0 (IntKind.i64.wrap (Int.tdiv n0 10)) b3 (bytesOf a++s4) N) (1<=([D.lit (.int IntKind.u8 (IntKind.u8.wrap (IntKind.i64.wrap (48+Int.tmod n0 10))))]).length
 /\ ∃ a:List Int,List.take 1 [D.lit (.int IntKind.u8 (IntKind.u8.wrap (IntKind.i64.wrap (48+Int.tmod n0 10))))]=List.map (fun a=>D.lit (.int IntKind.u8
 a)) a/\(ByteArray.size (bytesOf a)+s4.size:Nat)<=9223372036854775807/\(10:Int)≠(0:Int)/\zn Q N0 (IntKind.i64.wrap (Int.tdiv
 n0 10)) b3 (bytesOf a++s4) N)) (Br b3 ((1+s4.size:Nat)<=9223372036854775807/\∀ a,N<=a->Q (bytes [45]++s4) a) (∀ a,N<=a->Q s4 a))):zn Q N0 n0 b3 s4 N:=
  hE (H:=vT) (by kernel_rfl) h
theorem wO (N:Nat) (m0 c0:Nat) (rB0:List D) (qB0:Nat) (aB1_0:Option Addr) (eB1_0:List D) (cB1_0:Nat) (Q:QT [(Sh.bk 0),(Sh.sl 0),(Sh.sl 0)]) (h:∀ E:Env,
Bel N (D.sl Option.none 0 rB0 qB0)->Bel N (D.sl aB1_0 0 eB1_0 cB1_0)->(m0=rB0.length/\c0=qB0)/\∀ a,ApA a rB0->∀ b,ApA (Option.some b) [D.sl aB1_0 0
 eB1_0 cB1_0]->∀ c,N<=c->rx c [a,Option.some b]->ACalls prog 240 [.int .i64] [.sv a 0 rB0 c0,.fn 183 [.pd b 0 (D.sl aB1_0 0 eB1_0 cB1_0)]] c (fun
 n a=>c<=a->Br (n==(-1)) (zFU E [.arr 9 0 [] 0,.var [.sv none 0 [] 0]]/\(m0=rB0.length/\c0=qB0)/\∀ b,a<=b->Q (D.lit (.int .i64 0)) Option.none
 rB0 qB0 aB1_0 eB1_0 cB1_0 b) (zH E Q N m0 c0 n (IntKind.i64.wrap (n+1)) rB0 qB0 aB1_0 eB1_0 cB1_0 a))):BCalls prog 182 [(Sh.bk 0),(Sh.sl 0),(Sh.sl 0)] [.sb 0 0 0 m0 c0,.fn 183 [.pb 1 0 0 0]] [.arr 9 0 rB0 qB0,.var [.sv aB1_0 0 eB1_0 cB1_0]] N Q:=
  bE (H:=y6) (by kernel_rfl) (fun E=>by kernel_rfl) h
theorem xJ (Q:QT [.sl 0]) (N0:Nat) (m6 c6:Nat) (a25:Option Addr) (e25:List D) (c25:Nat) (n26 n27:Int) (r0:List D) (q0:Nat) (N:Nat) (h :
Br (decide (n27<n26)) ((0<=n27/\n27<(e25.length:Int))/\∃ a b,∃ c:Nat,List.getD e25 n27.toNat default=D.sl a 0 b c/\(m6=r0.length/\c6=q0) /\
 zC r0 b 16/\∀ (a:Nat),zP Q N0 (r0++b).length a a25 e25 c25 n26 (IntKind.i64.wrap (n27+1)) (r0++b) a N) ((m6=r0.length
 /\ c6=q0)/\(m6=r0.length/\c6=q0)/\(m6=r0.length/\c6=q0)/\∀ a b,N<=b->Fresh N0 b a [D.ag r0]->∀ c,b<=c->Q a r0 q0 c)):zP Q N0 m6 c6 a25 e25 c25 n26 n27 r0 q0 N:=
  hE (H:=yY) (by kernel_rfl) h
theorem wF (Q:QT [.row 9 0]) (N0:Nat) (a1:Option Addr) (e1:List D) (c1 m5 c5:Nat) (n7:Int) (r0:List D) (q0:Nat) (N:Nat) (h :
Br (decide (n7<(e1.length:Int))) ((0<=n7/\n7<(e1.length:Int))/\∃ s,List.getD e1 n7.toNat default=D.lit (.string s)/\(m5=r0.length/\c5=q0)/\∀
 a,ApA a r0->∀ b,N<=b->rx b [a]->ACalls prog 234 [.int .i64] [.sv a 0 r0 c5,.str s] b (fun n a=>b<=a->Br (decide (n<0)) ((0<=n7/\n7
 < (e1.length:Int))/\∃ b,List.getD e1 n7.toNat default=D.lit (.string b)/\(m5=r0.length/\c5=q0)/\zC r0 [D.lit (.string b)] 16/\∀ (c:Nat),
 zW Q N0 a1 e1 c1 (r0++[D.lit (.string b)]).length c (IntKind.i64.wrap (n7+1)) (r0++[D.lit (.string b)]) c a) (zW Q
 N0 a1 e1 c1 m5 c5 (IntKind.i64.wrap (n7+1)) r0 q0 a))) ((m5=r0.length/\c5=q0)/\∀ a,N<=a->Q r0 c5 a)):zW Q N0 a1 e1 c1 m5 c5 n7 r0 q0 N:=
  hE (H:=xa) (by kernel_rfl) h
theorem wY (Q:QT [.sl 0]) (N0:Nat) (a3:Option Addr) (e3:List D) (c3:Nat) (n4:Int) (m5 c5:Nat) (n6:Int) (a7:Option Addr) (e7:List D) (c7:Nat) (n8:Int) (y0:D) (r1:List D) (q1:Nat) (N:Nat) (h :
Br (decide (n8<(e3.length:Int))) (Br (n6==n4) ((0<=n8/\n8<(e3.length:Int))/\∃ s,List.getD e3 n8.toNat default=D.lit (.string s)/\∀ b,N<=b
 -> ACalls prog 174 [.sl 0] [.sv a7 0 e7 c7,.str s] b (fun a c d e=>b<=e->Bel e (D.sl a 0 c d)->zm Q N0 a3 e3 c3 n4 m5 c5 n6 a c
 d (IntKind.i64.wrap (n8+1)) y0 r1 q1 e)) ((m5=r1.length/\c5=q1)/\∀ a,ApA a r1->Off [a] (D.sl a7 0 e7 c7)->∀ b,N<=b->rx b [a]->ACalls
 prog 175 [.row (OfNat.ofNat 9) 0] [.sv a 0 r1 c5,.sv a7 0 e7 c7] b (fun c d e=>b<=e->Off [a] (D.ag c)/\(Bel e (D.ag c)->zV
 Q N0 a3 e3 c3 n4 c.length d (IntKind.i64.wrap (n6+1)) y0 c d e)))) ((m5=r1.length/\c5=q1)/\∀ a,ApA a r1->Off [a] (D.sl a7 0 e7 c7) ->
 ∀ b,N<=b->rx b [a]->ACalls prog 175 [.row (OfNat.ofNat 9) 0] [.sv a 0 r1 c5,.sv a7 0 e7 c7] b (fun c d e=>b<=e->Off [a] (D.ag
 c)/\(Bel e (D.ag c)->zV Q N0 a3 e3 c3 n4 c.length d (IntKind.i64.wrap (n6+1)) y0 c d e)))):zm Q N0 a3 e3 c3 n4 m5 c5 n6 a7 e7 c7 n8 y0 r1 q1 N:=
  hE (H:=wK) (by kernel_rfl) h
theorem wX (N:Nat) (a0:Option Addr) (e0:List D) (c0:Nat) (a1_0:Addr) (x1_0_:D) (Q:QT [.int .i64]) (h :
Bel N (D.sl a0 0 e0 c0)->za Q N a0 e0 c0 a1_0 x1_0_ (e0.length:Int) 0 N):ACalls prog 240 [.int .i64] [.sv a0 0 e0 c0,.fn 183 [.pd a1_0 0 x1_0_]] N Q:=
 eE (H:=xN) (by kernel_rfl) (by kernel_rfl) h
theorem yW (E:Env) (Q:QT [(Sh.bk 0),(Sh.sl 0),(Sh.sl 0)]) (N0:Nat) (m0 c0:Nat) (n5 n6:Int) (r0:List D) (q0:Nat) (a1_0:Option Addr) (e1_0:List D) (c1_0:Nat) (N:Nat) (h :
Br (decide (n6<(m0:Int))) ((0<=n6/\n6<(m0:Int)/\(0+n6.toNat:Nat)<r0.length)/\(0+n6.toNat:Nat)<r0.length/\∃ s,List.getD r0 (0+n6.toNat
 : Nat) default=D.lit (.string s)/\∀ a,ApA (Option.some a) [D.sl a1_0 0 e1_0 c1_0]->∀ c,N<=c->rx c [Option.some a]->ACalls prog 183 [.bool] [.str
 s,.pd a 0 (D.sl a1_0 0 e1_0 c1_0)] c (fun b a=>c<=a->Br (!b) ((0<=n5/\n5<(m0:Int)/\(0+n5.toNat:Nat)<r0.length)/\(0+n5.toNat:Nat)
 < r0.length/\zH E Q N0 m0 c0 (IntKind.i64.wrap (n5+1)) (IntKind.i64.wrap (n6+1)) (List.set r0 (0+n5.toNat:Nat) (D.lit (.string s)))
 q0 a1_0 e1_0 c1_0 a) (zH E Q N0 m0 c0 n5 (IntKind.i64.wrap (n6+1)) r0 q0 a1_0 e1_0 c1_0 a))) ((0<=n5/\n5<=(m0:Int)/\(m0:Int)
 <= (c0:Int)/\n5<(c0))/\((0+n5.toNat:Nat)+(((m0:Int)).toNat - n5.toNat:Nat):Nat)<=r0.length/\(0<=n5/\n5<=(c0:Int))/\n5.toNat<=(List.take
 (0+n5.toNat:Nat) r0++(List.replicate (((m0:Int)).toNat - n5.toNat:Nat) (D.lit (.string (bytes [])))++List.drop ((0+n5.toNat:Nat)+(((m0:Int)).toNat
 - n5.toNat:Nat):Nat) r0)).length/\zFU E [.arr 9 0 [] 0,.var [.sv none 0 [] 0]]/\(n5.toNat=(List.take n5.toNat (List.take (0+n5.toNat:Nat) r0++(List.replicate
 (((m0:Int)).toNat - n5.toNat:Nat) (D.lit (.string (bytes [])))++List.drop ((0+n5.toNat:Nat)+(((m0:Int)).toNat - n5.toNat:Nat):Nat) r0))).length
 /\ c0=q0)/\∀ a,N<=a->Q (D.lit (.int .i64 0)) Option.none (List.take n5.toNat (List.take (0+n5.toNat:Nat) r0++(List.replicate (((m0:Int)).toNat -
 n5.toNat:Nat) (D.lit (.string (bytes [])))++List.drop ((0+n5.toNat:Nat)+(((m0:Int)).toNat - n5.toNat:Nat):Nat) r0))) q0 a1_0 e1_0 c1_0 a)):zH E Q N0 m0 c0 n5 n6 r0 q0 a1_0 e1_0 c1_0 N:=
  hE (H:=y6) (by kernel_rfl) h
theorem yZ (Q:QT [.int .i64]) (N0:Nat) (a0:Option Addr) (e0:List D) (c0:Nat) (a1_0:Addr) (x1_0_:D) (n7 n8:Int) (N:Nat) (h :
Br (decide (n8<n7)) ((0<=n8/\n8<(e0.length:Int))/\∃ s,List.getD e0 n8.toNat default=D.lit (.string s)/\∀ a,N<=a->ACalls prog 183 [.bool] [.str
 s,.pd a1_0 0 x1_0_] a (fun b c=>a<=c->Br b (∀ a,c<=a->Q n8 a) (za Q N0 a0 e0 c0 a1_0 x1_0_ n7 (IntKind.i64.wrap (n8
 + 1)) c))) (∀ a,N<=a->Q (-1) a)):za Q N0 a0 e0 c0 a1_0 x1_0_ n7 n8 N:=
  hE (H:=xN) (by kernel_rfl) h
theorem uq (N:Nat) (s0:ByteArray) (a1:Addr) (x1_:D) (Q:QT [.bool]) (h :
∃ a d,∃ c:Nat,x1_=D.sl a 0 d c/\∀ e,N<=e->ACalls prog 184 [.bool] [.sv a 0 d c,.str s0] e (fun b a=>e<=a->∀ c,a<=c->Q b c) 
 ):ACalls prog 183 [.bool] [.str s0,.pd a1 0 x1_] N Q:=
  eE (H:=sf) (by kernel_rfl) (by kernel_rfl) h
end Go.Proofs.YtmfjakahanbnlaaGreatDoor
set_option maxRecDepth 100000
namespace Go.Proofs.YtmfjakahanbnlaaGreatDoor
open Go Go.Proofs Go.Proofs.Tryz
def tU:Hint:=⟨[],[],[]⟩
theorem tP (N:Nat) (a0:Option Addr) (e0:List D) (c0:Nat) (Q:QT [.row 9 0]) (h :
Bel N (D.sl a0 0 e0 c0)->Br (Option.isNone a0) (∀ a,N<=a->Q [] 0 a) ((0=0/\0=0)/\zC [] e0 16/\∀ (c:Nat),(([]++e0).length=([]++e0).length
 /\ c=c)/\∀ a,N<=a->Q ([]++e0) c a)):ACalls prog 115 [.row 9 0] [PV.sv a0 0 e0 c0] N Q:=
  eE (H:=tU) (by kernel_rfl) (by kernel_rfl) h
end Go.Proofs.YtmfjakahanbnlaaGreatDoor
