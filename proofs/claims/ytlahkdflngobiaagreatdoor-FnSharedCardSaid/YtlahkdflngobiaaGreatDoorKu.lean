/- Printed by gen.py: what the functions come to. -/
import Derived.Test.YtlahkdflngobiaaGreatDoorJh
set_option linter.unusedVariables false
set_option maxRecDepth 100000
namespace Go.Proofs.YtlahkdflngobiaaGreatDoor
open Go Go.Proofs Go.Proofs.Tryz
def zCj:Hint:=⟨[hc 3 [1,2,3,4] [] [(3,8,36,9)]],[],[(1,[en 0,en 1,en 2,en 3,en 4,en 5,en 6,en 7,en 8,en 9,en 11,en 12,en 15,{ i:=10,hard:=true,cl:=[14],fs:=[3,14] },{ i:=13,hard:=true,cl:=[17],fs:=[3,17] },en 14,eh 16]),(5,[en 0,en 1,en 2,en 3,en 4,en 5,en 6,{ i:=7,hard:=true,cl:=[33],fs:=[3,33] },{ i:=8,hard:=true,cl:=[34],fs:=[3,34] },eh 9,en 10,eh 11])]⟩
def zB5:Hint:=⟨[hc 3 [1,4,5,6] [] [(5,8,36,9)]],[],[(5,[en 0,en 1,en 2,en 3,en 4,en 5,{ i:=6,hard:=true,cl:=[20],fs:=[5,20] },{ i:=7,hard:=true,cl:=[21],fs:=[5,21] },eh 8,en 9,eh 10])]⟩
def zEk:Hint:=⟨[],[],[(1,[en 0,en 1,en 2,en 3,en 4,en 5,en 6,en 7,en 8,en 9,en 11,en 12,en 14,ec 10 [14],ec 13 [17],en 15,eh 16])]⟩
def sN:Hint:=⟨[hc 3 [1,2,4,5,10,11,12] [(5,36,9)]],[],[(5,hs 7 [{ i:=3,hard:=true,cl:=[18],fs:=[5,18] },{ i:=4,hard:=true,cl:=[19],fs:=[5,19] }]),(7,hs 4 [{ i:=2,hard:=true,cl:=[23],fs:=[5,23] }])]⟩
def zFE:Hint:=⟨[],[],[(1,hs 3 [ec 1 [3]])]⟩
def wV (Q:QT [.pk,.int .i64,.str,.str,.int .i64,.dc,.dc,.dc,.dc,.row 36 9]) (N0:Nat) (n4:Int) (y0:D) (I:Int) (J O:ByteArray) (aa ab:Int) (ac:Option Addr) (ae:List D) (ah:Nat) (ai:Int) (aj:Option Addr) (ak:List D) (al:Nat) (am:Option Addr) (ao:List D) (aq:Nat) (au:Int) (aw ax:ByteArray) (ay:Int) (az a6 a7 a8:D) (ba bb:Nat) (r3:List D) (q3:Nat) (N:Nat):Prop:=AT prog 34 [.pk,.int .i64,.str,.str,.int .i64,.dc,.dc,.dc,.dc,.row 36 9] Q N0 .ord (zD prog 34 3) ⟨an 1 (.pb 0 0 0 0::.pb 1 0 0 0::.pb 2 0 0 0::.int .i64 n4::an 34 []),[.vd y0 9,.var [.int .i64 I,.str J,.str O,.int .i64 aa,.int .i64 ab,.sv ac 2 ae ah,.int .i64 ai,.sv aj 2 ak al,.sv am 9 ao aq],.var [.int .i64 au,.str aw,.str ax,.int .i64 ay,.dc az,.dc a6,.dc a7,.dc a8,.sb 3 9 0 ba bb],.arr 36 9 r3 q3],N,none⟩
def vo (Q:QT [.ag 9]) (N0:Nat) (a1:Option Addr) (e1:List D) (c1:Nat) (n6 I:Int) (J O:ByteArray) (aa ab:Int) (ac:Option Addr) (ae:List D) (ah:Nat) (ai:Int) (aj:Option Addr) (ak:List D) (al:Nat) (am:Option Addr) (ao:List D) (aq:Nat) (au:Int) (aw ax:ByteArray) (ay az:Int) (a6:Option Addr) (a7:List D) (a8:Nat) (ba:Int) (bb:Option Addr) (bc:List D) (bd bg bh:Nat) (r2:List D) (q2:Nat) (N:Nat):Prop:=AT prog 79 [.ag 9] Q N0 .ord (zD prog 79 3) ⟨an 1 (.sv a1 9 e1 c1::an 2 (.pb 0 0 0 0::.pb 1 0 0 0::.int .i64 n6::an 19 [])),[.var [.int .i64 I,.str J,.str O,.int .i64 aa,.int .i64 ab,.sv ac 2 ae ah,.int .i64 ai,.sv aj 2 ak al,.sv am 9 ao aq],.var [.int .i64 au,.str aw,.str ax,.int .i64 ay,.int .i64 az,.sv a6 2 a7 a8,.int .i64 ba,.sv bb 2 bc bd,.sb 2 9 0 bg bh],.arr 36 9 r2 q2],N,none⟩
def xG (Q:QT [.pk,.int .i64,.str,.str,.int .i64,.dc,.dc,.dc,.dc,.row 36 9]) (N0:Nat) (m5 c5:Nat) (au:Option Addr) (aw:List D) (ax:Nat) (ay az:Int) (y0:D) (I:Int) (J O:ByteArray) (aa ab:Int) (ac:Option Addr) (ae:List D) (ah:Nat) (ai:Int) (aj:Option Addr) (ak:List D) (al:Nat) (am:Option Addr) (ao:List D) (aq:Nat) (r2:List D) (q2:Nat) (N:Nat):Prop:=AT prog 85 [.pk,.int .i64,.str,.str,.int .i64,.dc,.dc,.dc,.dc,.row 36 9] Q N0 .ord (zD prog 85 3) ⟨an 1 (.fn 43 []::.pb 0 0 0 0::an 1 (.pb 1 0 0 0::.sb 2 9 0 m5 c5::an 4 (.sv au 9 aw ax::.int .i64 ay::.int .i64 az::an 13 []))),[.vd y0 9,.var [.int .i64 I,.str J,.str O,.int .i64 aa,.int .i64 ab,.sv ac 2 ae ah,.int .i64 ai,.sv aj 2 ak al,.sv am 9 ao aq],.arr 36 9 r2 q2],N,none⟩
theorem zCA (N:Nat) (x0:D) (Q:QT [.pk,.int .i64,.str,.str,.int .i64,.dc,.dc,.dc,.dc,.row 36 9]) (h :
Bel N x0->∃ n:Int,(x0.cell 0)=D.j n/\∃ s,(x0.cell 1)=D.t s/\∃ a,(x0.cell 2)=D.t a/\∃ b:Int,(x0.cell 3)=D.j b/\kA 2 76 [.dg 2
 (D.sub x0 4 2)] N (fun x c=>kA 2 76 [.dg 2 (D.sub x0 6 2)] c (fun c d=>wV Q N 0 x0 0 b0 b0 0 0 none [] 0 0 none [] 0 none [] 0 n s a b
 (x.cell 0) (x.cell 1) (c.cell 0) (c.cell 1) 0 0 [] 0 d))):ACalls prog 34 [.pk,.int .i64,.str,.str,.int .i64,.dc,.dc,.dc,.dc,.row 36 9] [PV.dg 9 x0] N Q:=
  eE zCj h
theorem zJW (N:Nat) (n0:Int) (a1:Option Addr) (e1:List D) (c1:Nat) (Q:QT [.ag 9]) (h :
Bel N (D.sl a1 9 e1 c1)->vo Q N a1 e1 c1 0 0 b0 b0 0 0 none [] 0 0 none [] 0 none [] 0 n0 b0 b0 0 0 none [] 0 0 none [] 0 0 0 [] 0 N):ACalls prog 79 [.ag 9] [PV.int .i64 n0,PV.sv a1 9 e1 c1] N Q:=
 eE zB5 h
theorem zKi (N:Nat) (s0:ByteArray) (x1 x2:D) (Q:QT [.ag 9]) (h :
Bel N x1->Bel N x2->(2=([x1,x2]).length/\2=2)/\∀ a,ApA a [x1,x2]->∀ b,N<=b->wa b [a]->ACalls prog 79 [.ag 9] [.j 8,.sv a 9 [x1,x2]
 2] b (fun x c=>b<=c->Off [a] x/\(Bel c x->uP c (Q (D.ag [(x.cell 0),D.t s0,(x.cell 2),(x.cell 3),(x.cell 4),(x.cell 5),(x.cell 6),(x.cell 7),
 (x.cell 8)]))))):ACalls prog 38 [.ag 9] [PV.str s0,PV.dg 9 x1,PV.dg 9 x2] N Q:=
  eE H0 h
theorem zEf (N:Nat) (I:D) (a1:Option Addr) (e1:List D) (c1:Nat) (Q:QT [.pk,.int .i64,.str,.str,.int .i64,.dc,.dc,.dc,.dc,.bk 1]) (h :
Bel N I->Bel N (D.sl a1 9 e1 c1)->∃ n:Int,(I.cell 0)=D.j n/\∃ s,(I.cell 1)=D.t s/\∃ a,(I.cell 2)=D.t a/\∃ b:Int,(I.cell 3) =
 D.j b/\kA 2 127 [.dg 2 (D.sub I 4 2)] N (λx c=>kA 2 127 [.dg 2 (D.sub I 6 2)] c (λc d=>uP d (Q n s a b (x.cell 0) (x.cell 1) (c.cell
 0) (c.cell 1) (D.sl a1 9 e1 c1))))):ACalls prog 91 [.pk,.int .i64,.str,.str,.int .i64,.dc,.dc,.dc,.dc,.bk 1] [PV.dg 9 I,PV.sv a1 9 e1 c1] N Q:=
  eE zEk h
theorem zFb (N:Nat) (I:D) (Q:QT [.pk,.int .i64,.str,.str,.int .i64,.dc,.dc,.dc,.dc,.row 36 9]) (h :
Bel N I->∀ a,N<=a->ACalls prog 85 [.pk,.i,.str,.str,.i,.dc,.dc,.dc,.dc,.row 36 9] [.dg 9 I,.fn 43 []] a (λn s b c x d e f
 g h i=>a<=i->Bel i (D.ag g)->(g.length=g.length/\h=h)/\uP i (Q n s b c x d e f g h))):ACalls prog 43 [.pk,.int .i64,.str,.str,.int .i64,.dc,.dc,.dc,.dc,.row 36 9] [PV.dg 9 I] N Q:=
  eE zFE h
theorem vz (Q:QT [.pk,.int .i64,.str,.str,.int .i64,.dc,.dc,.dc,.dc,.row 36 9]) (N0:Nat) (n4:Int) (y0:D) (ak:Int) (al am:ByteArray) (ao aq:Int) (au:Option Addr) (aw:List D) (ax:Nat) (ay:Int) (az:Option Addr) (a6:List D) (a7:Nat) (a8:Option Addr) (ba:List D) (bb:Nat) (ac:Int) (ae ah:ByteArray) (ai:Int) (I J O aa:D) (aj ab:Nat) (r3:List D) (q3:Nat) (N:Nat) (h :
∃ a b,∃ c:Nat,(y0.cell 8)=D.sl a 9 b c/\Br (decide (n4<(b.length:Int))) (∃ a b,∃ c:Nat,(y0.cell 8)=D.sl a 9 b c/\(0<=n4
 /\ n4<(b.length:Int))/\∀ a,N<=a->ACalls prog 34 [.pk,.i,.str,.str,.i,.dc,.dc,.dc,.dc,.row 36 9] [.dg 9 (List.getD b n4.toNat default)]
 a (λn s b c x d e f g h i=>a<=i->Bel i (D.ag g)->(g.length=g.length/\h=h)/\∀ a j,i<=j->Fresh N0 j a
 [D.ag g,x,d,e,f,I,J,O,aa,D.ag r3]->(aj=r3.length/\ab=q3)/\zB r3 [D.ag [D.j n,D.t s,D.t b,D.j c,x,d,e,
 f,D.sl a 9 g h]] 136/\∀ (i:Nat),wV Q N0 (IntKind.i64.wrap (n4+1)) y0 ak al am ao aq au aw ax ay az a6 a7
 a8 ba bb ac ae ah ai I J O aa (r3++[D.ag [D.j n,D.t s,D.t b,D.j c,x,d,e,f,D.sl a 9 g h]]).length i (r3 ++
 [D.ag [D.j n,D.t s,D.t b,D.j c,x,d,e,f,D.sl a 9 g h]]) i j)) ((aj=r3.length/\ab=q3)/\uP N (Q ac ae ah ai I J
 O aa r3 ab))):wV Q N0 n4 y0 ak al am ao aq au aw ax ay az a6 a7 a8 ba bb ac ae ah ai I J O aa aj ab r3 q3 N:=
  hE zCj h
theorem qr (Q:QT [.ag 9]) (N0:Nat) (a1:Option Addr) (e1:List D) (c1:Nat) (n6 aq:Int) (au aw:ByteArray) (ax ay:Int) (az:Option Addr) (a6:List D) (a7:Nat) (a8:Int) (ba:Option Addr) (bb:List D) (bc:Nat) (bd:Option Addr) (bg:List D) (bh:Nat) (ae:Int) (ah ai:ByteArray) (aj ak:Int) (I:Option Addr) (J:List D) (O:Nat) (al:Int) (aa:Option Addr) (ab:List D) (ac am ao:Nat) (r2:List D) (q2:Nat) (N:Nat) (h :
Br (decide (n6<(e1.length:Int))) ((0<=n6/\n6<(e1.length:Int))/\∀ b,N<=b->ACalls prog 34 [.pk,.i,.str,.str,.i,.dc,.dc,.dc,.dc,.row
 36 9] [.dg 9 (List.getD e1 n6.toNat default)] b (λn s c d x e f g h i j=>b<=j->Bel j (D.ag h)->(h.length=h.length/\i=i)/\∀ a
 b,j<=b->Fresh N0 b a [D.ag h,x,e,f,g,D.sl I 2 J O,D.sl aa 2 ab ac,D.ag r2]->(am=r2.length/\ao=q2)/\zB r2
 [D.ag [D.j n,D.t s,D.t c,D.j d,x,e,f,g,D.sl a 9 h i]] 136/\∀ (j:Nat),vo Q N0 a1 e1 c1 (IntKind.i64.wrap (n6+1)) aq
 au aw ax ay az a6 a7 a8 ba bb bc bd bg bh ae ah ai aj ak I J O al aa ab ac (r2++[D.ag [D.j n,D.t s,
 D.t c,D.j d,x,e,f,g,D.sl a 9 h i]]).length j (r2++[D.ag [D.j n,D.t s,D.t c,D.j d,x,e,f,g,D.sl a 9 h i]]) j b)) (w3
 (am=r2.length/\ao=q2) (∀ a b,N<=b->Fresh N0 b a [D.ag r2,D.sl I 2 J O,D.sl aa 2 ab ac]->uP b (Q (D.ag [D.j ae,D.t ah,
 D.t ai,D.j aj,D.j ak,D.sl I 2 J O,D.j al,D.sl aa 2 ab ac,D.sl a 9 r2 q2]))))):vo Q N0 a1 e1 c1 n6 aq au aw ax ay az a6 a7 a8 ba bb bc bd bg bh ae ah ai aj ak I J O al aa ab ac am ao r2 q2 N:=
  hE zB5 h
theorem qw (N:Nat) (I:D) (Q:QT [.pk,.int .i64,.str,.str,.int .i64,.dc,.dc,.dc,.dc,.row 36 9]) (h :
Bel N I->∃ a b,∃ c:Nat,(I.cell 8)=D.sl a 9 b c/\xG Q N 0 0 a b c (b.length:Int) 0 I 0 b0 b0 0 0 none [] 0 0 none [] 0
 none [] 0 [] 0 N):ACalls prog 85 [.pk,.int .i64,.str,.str,.int .i64,.dc,.dc,.dc,.dc,.row 36 9] [.dg 9 I,.fn 43 []] N Q:=
  eE sN h
theorem u7 (Q:QT [.pk,.int .i64,.str,.str,.int .i64,.dc,.dc,.dc,.dc,.row 36 9]) (N0:Nat) (m5 c5:Nat) (az:Option Addr) (O:List D) (a6:Nat) (ay I:Int) (y0:D) (aa:Int) (ab ac:ByteArray) (ae ah:Int) (ai:Option Addr) (aj:List D) (ak:Nat) (al:Int) (am:Option Addr) (ao:List D) (aq:Nat) (au:Option Addr) (aw:List D) (ax:Nat) (J:List D) (q2:Nat) (N:Nat) (h :
Br (decide (I<ay)) ((0<=I/\I<(O.length:Int))/\∀ b,N<=b->ACalls prog 43 [.pk,.i,.str,.str,.i,.dc,.dc,.dc,.dc,.row 36 9] [.dg
 9 (List.getD O I.toNat default)] b (λn s c d x e f g h i j=>b<=j->Bel j (D.ag h)->(h.length=h.length/\i=i)/\∀ a b,j<=b
 -> Fresh N0 b a [D.ag h,x,e,f,g,D.ag J]->(m5=J.length/\c5=q2)/\zB J [D.ag [D.j n,D.t s,D.t c,D.j d,x,e,f,g,D.sl a 9
 h i]] 136/\∀ (j:Nat),xG Q N0 (J++[D.ag [D.j n,D.t s,D.t c,D.j d,x,e,f,g,D.sl a 9 h i]]).length j az O a6
 ay (IntKind.i64.wrap (I+1)) y0 aa ab ac ae ah ai aj ak al am ao aq au aw ax (J++[D.ag [D.j n,D.t s,D.t c,D.j d,x,
 e,f,g,D.sl a 9 h i]]) j b)) ((m5=J.length/\c5=q2)/\∀ a,ApA a J->Off [a] y0->∀ b,N<=b->wa b [a]->ACalls prog 91 [.pk,
 .i,.str,.str,.i,.dc,.dc,.dc,.dc,Sh.bk 1] [.dg 9 y0,.sv a 9 J c5] b (λc d e f g h i j k l=>b<=l->k=D.sl a 9 J c5
 /\ Off [a] g/\Off [a] h/\Off [a] i/\Off [a] j/\(m5=J.length/\c5=q2)/\uP l (Q c d e f g h i j J c5)))):xG Q N0 m5 c5 az O a6 ay I y0 aa ab ac ae ah ai aj ak al am ao aq au aw ax J q2 N:=
  hE sN h
end Go.Proofs.YtlahkdflngobiaaGreatDoor
set_option maxRecDepth 100000
namespace Go.Proofs.YtlahkdflngobiaaGreatDoor
open Go Go.Proofs Go.Proofs.Tryz
def ve:Hint:=⟨[hc 2 [0,1,7,8]],[],[]⟩
def vM:Hint:=⟨[hc 5 [0,1,5,6]],[],[(12,hs 4 [{ i:=2,hard:=true,tr:=true }])]⟩
def qp:Hint:=⟨[hc 6 [3,4,5,22,23,24]],[],[(3,hs 8 [ec 1 [16]]),(8,hs 3 [ec 1 [29]])]⟩
def zBa:Hint:=⟨[],[],[(5,hs 10 [{ i:=8,hard:=true,tr:=true }])]⟩
def wn:Hint:=⟨[hc 3 [0,3,9,10,11],hc 11 [6,25,26,27] [(6,9,0)]],[],[]⟩
def rQ:Hint:=⟨[hc 3 [5,12,13,14] [(5,9,0)]],[],[]⟩
def zDt:Hint:=⟨[hc 3 [0,1,5]],[],[]⟩
def sM:Hint:=⟨[hc 3 [0,1,5,6] [(5,9,0)]],[],[]⟩
def uQ:Hint:=⟨[hc 3 [0,1,5,6] [(5,9,0)],hc 8 [1,5,7] [(5,9,0)]],[],[]⟩
def tY:Hint:=⟨[hc 6 [1,3,4,5,6],hc 10 [1,3,4,5,6,7,8]],[],[(8,hs 7 [ec 5 [32]])]⟩
def qX:Hint:=⟨[hc 5 [0,3,4]],[],[]⟩
def qO:Hint:=⟨[hc 3 [0,3]],[],[]⟩
def xR (Q:QT [.row 9 0]) (N0:Nat) (n4:Int) (m5 c5:Nat) (aa:Option Addr) (ab:List D) (ac:Nat) (ae ah:Int) (I:Option Addr) (J:List D) (O:Nat) (r1:List D) (q1:Nat) (N:Nat):Prop:=AT prog 124 [.row 9 0] Q N0 .ord (zD prog 124 6) ⟨an 3 (.pb 0 0 0 0::.int .i64 n4::.sb 1 0 0 m5 c5::an 16 (.sv aa 9 ab ac::.int .i64 ae::.int .i64 ah::an 17 [])),[.var [.sv I 0 J O],.arr 9 0 r1 q1],N,none⟩
def yn (Q:QT [.sl 0]) (N0:Nat) (a0:Option Addr) (e0:List D) (J:Nat) (n3:Int) (a9:Option Addr) (O:List D) (c9:Nat) (n10 I:Int) (N:Nat):Prop:=AT prog 46 [.sl 0] Q N0 .ord (zD prog 46 3) ⟨.sv a0 0 e0 J::an 2 (.int .i64 n3::an 5 (.sv a9 0 O c9::.int .i64 n10::.int .i64 I::an 24 [])),[],N,none⟩
def ym (Q:QT [.row 9 0]) (N0:Nat) (m5 c5:Nat) (I:Option Addr) (J:List D) (O:Nat) (aa n14:Int) (r0:List D) (q0:Nat) (N:Nat):Prop:=AT prog 72 [.row 9 0] Q N0 .ord (zD prog 72 3) ⟨an 5 (.sb 0 0 0 m5 c5::an 6 (.sv I 0 J O::.int .i64 aa::.int .i64 n14::an 13 [])),[.arr 9 0 r0 q0],N,none⟩
def ub (Q:QT [.str]) (N0:Nat) (s0:ByteArray) (a1:Option Addr) (e1:List D) (c1:Nat) (I:Int) (N:Nat):Prop:=AT prog 86 [.str] Q N0 .ord (zD prog 86 3) ⟨.str s0::.sv a1 0 e1 c1::an 3 (.int .i64 I::an 12 []),[],N,none⟩
def yb (Q:QT [.sl 0]) (N0:Nat) (a0:Option Addr) (e0:List D) (I:Nat) (J:ByteArray) (O c5:Nat) (n6:Int) (r0:List D) (q0:Nat) (N:Nat):Prop:=AT prog 121 [.sl 0] Q N0 .ord (zD prog 121 3) ⟨.sv a0 0 e0 I::.str J::an 3 (.sb 0 0 0 O c5::.int .i64 n6::an 21 []),[.arr 9 0 r0 q0],N,none⟩
def yj (Q:QT [.row 9 0]) (N0:Nat) (a0:Option Addr) (e0:List D) (I:Nat) (a1:Option Addr) (e1:List D) (c1 J O:Nat) (n6:Int) (r0:List D) (q0:Nat) (N:Nat):Prop:=AT prog 36 [.row 9 0] Q N0 .ord (zD prog 36 3) ⟨.sv a0 0 e0 I::.sv a1 0 e1 c1::an 3 (.sb 0 0 0 J O::.int .i64 n6::an 43 []),[.arr 9 0 r0 q0],N,none⟩
def yM (Q:QT [.sl 0]) (N0:Nat) (a3:Option Addr) (I:List D) (J:Nat) (O:Int) (m5 c5:Nat) (n6:Int) (y0:D) (r1:List D) (q1:Nat) (N:Nat):Prop:=AT prog 81 [.sl 0] Q N0 .ord (zD prog 81 6) ⟨an 1 (.pb 0 0 0 0::an 1 (.sv a3 0 I J::.int .i64 O::.sb 1 0 0 m5 c5::.int .i64 n6::an 48 [])),[.vd y0 9,.arr 9 0 r1 q1],N,none⟩
def yx (Q:QT [.str]) (N0:Nat) (n0:Int) (I:Bool) (J:ByteArray) (N:Nat):Prop:=AT prog 77 [.str] Q N0 .ord (zD prog 77 5) ⟨.int .i64 n0::an 2 (.bool I::.str J::an 26 []),[],N,none⟩
def wM (Q:QT [.str]) (N0:Nat) (a0:Option Addr) (e0:List D) (I:Nat) (n3:Int) (N:Nat):Prop:=AT prog 35 [.str] Q N0 .ord (zD prog 35 3) ⟨.sv a0 0 e0 I::an 2 (.int .i64 n3::an 11 []),[],N,none⟩
def yA (Q:QT [.sl 0]) (N0:Nat) (m6 c6:Nat) (I:Option Addr) (J:List D) (O:Nat) (aa ab:Int) (r0:List D) (q0:Nat) (N:Nat):Prop:=AT prog 46 [.sl 0] Q N0 .ord (zD prog 46 11) ⟨an 6 (.sb 0 0 0 m6 c6::an 18 (.sv I 0 J O::.int .i64 aa::.int .i64 ab::an 8 [])),[.arr 9 0 r0 q0],N,none⟩
def yL (Q:QT [.row 9 0]) (N0:Nat) (a1:Option Addr) (e1:List D) (c1 I J:Nat) (O:Int) (r0:List D) (q0:Nat) (N:Nat):Prop:=AT prog 36 [.row 9 0] Q N0 .ord (zD prog 36 8) ⟨an 1 (.sv a1 0 e1 c1::an 3 (.sb 0 0 0 I J::an 1 (.int .i64 O::an 42 []))),[.arr 9 0 r0 q0],N,none⟩
def yw (Q:QT [.sl 0]) (N0:Nat) (a3:Option Addr) (I:List D) (J:Nat) (O:Int) (m5 c5:Nat) (n6:Int) (a7:Option Addr) (e7:List D) (c7:Nat) (n8:Int) (y0:D) (r1:List D) (q1:Nat) (N:Nat):Prop:=AT prog 81 [.sl 0] Q N0 .ord (zD prog 81 10) ⟨an 1 (.pb 0 0 0 0::an 1 (.sv a3 0 I J::.int .i64 O::.sb 1 0 0 m5 c5::.int .i64 n6::.sv a7 0 e7 c7::.int .i64 n8::an 46 [])),[.vd y0 9,.arr 9 0 r1 q1],N,none⟩
def zm (E:Env) (Q:QT [.bk 0,.sl 0,.sl 0]) (N0:Nat) (m0 c0:Nat) (n5 n6:Int) (r0:List D) (q0:Nat) (I:Option Addr) (J:List D) (O:Nat) (N:Nat):Prop:=AT prog 164 [.bk 0,.sl 0,.sl 0] Q N0 (.io E [.arr 9 0 [] 0,.var [.sv none 0 [] 0]]) (zD prog 164 5) ⟨.sb 0 0 0 m0 c0::.fn 165 [.pb 1 0 0 0]::an 3 (.int .i64 n5::.int .i64 n6::an 35 []),[.arr 9 0 r0 q0,.var [.sv I 0 J O]],N,some (wO E 0 [.arr 9 0 [] 0,.var [.sv none 0 [] 0]],[])⟩
def yO (Q:QT [.int .i64]) (N0:Nat) (a0:Option Addr) (e0:List D) (O:Nat) (J:Addr) (I:D) (n7 n8:Int) (N:Nat):Prop:=AT prog 162 [.int .i64] Q N0 .ord (zD prog 162 2) ⟨.sv a0 0 e0 O::.fn 165 [.pd J 0 I]::an 5 (.int .i64 n7::.int .i64 n8::an 10 []),[],N,none⟩
theorem zKu (N:Nat) (x0:D) (Q:QT [.sl 0,.int .i64]) (h :
Bel N x0->∃ n:Int,(x0.cell 0)=D.j n/\Br (n==6) (∃ a b,∃ c:Nat,(x0.cell 8)=D.sl a 9 b c/\Br ((b.length:Int)==1) (∃ s,(x0.cell 1) =
 D.t s/\w2 (1=([D.t s]).length/\1=1) (∀ a b,N<=b->Fresh N b a [D.ag [D.t s]]->uP b (Q a [D.t s] 1 0))) (∃ a:Int,(x0.cell 0)=D.j a /\
 Br (a==8) (∃ a b,∃ c:Nat,(x0.cell 8)=D.sl a 9 b c/\Br ((b.length:Int)==2) (∃ a,(x0.cell 1)=D.t a/\w2 (1=([D.t
 a]).length/\1=1) (∀ b c,N<=c->Fresh N c b [D.ag [D.t a]]->uP c (Q b [D.t a] 1 1))) (∃ a:Int,(x0.cell 0)=D.j a/\Br (a==9) (∃
 a b,∃ c:Nat,(x0.cell 8)=D.sl a 9 b c/\Br ((b.length:Int)==1) (∃ a,(x0.cell 1)=D.t a/\∃ b,(x0.cell 2)=D.t b/\w2 (2 =
 ([D.t a,D.t b]).length/\2=2) (∀ c d,N<=d->Fresh N d c [D.ag [D.t a,D.t b]]->uP d (Q c [D.t a,D.t b] 2 0))) (uP N (Q none [] 0
 (-1)))) (uP N (Q none [] 0 (-1))))) (∃ a:Int,(x0.cell 0)=D.j a/\Br (a==9) (∃ a b,∃ c:Nat,(x0.cell 8)=D.sl a 9 b c/\Br
 ((b.length:Int)==1) (∃ a,(x0.cell 1)=D.t a/\∃ b,(x0.cell 2)=D.t b/\w2 (2=([D.t a,D.t b]).length/\2=2) (∀ c d,N<=d->Fresh
 N d c [D.ag [D.t a,D.t b]]->uP d (Q c [D.t a,D.t b] 2 0))) (uP N (Q none [] 0 (-1)))) (uP N (Q none [] 0 (-1)))))) (∃ a:Int,(x0.cell 0) =
 D.j a/\Br (a==8) (∃ a b,∃ c:Nat,(x0.cell 8)=D.sl a 9 b c/\Br ((b.length:Int)==2) (∃ a,(x0.cell 1)=D.t a/\w2 (1 =
 ([D.t a]).length/\1=1) (∀ b c,N<=c->Fresh N c b [D.ag [D.t a]]->uP c (Q b [D.t a] 1 1))) (∃ a:Int,(x0.cell 0)=D.j a/\Br
 (a==9) (∃ a b,∃ c:Nat,(x0.cell 8)=D.sl a 9 b c/\Br ((b.length:Int)==1) (∃ a,(x0.cell 1)=D.t a/\∃ b,(x0.cell 2) =
 D.t b/\w2 (2=([D.t a,D.t b]).length/\2=2) (∀ c d,N<=d->Fresh N d c [D.ag [D.t a,D.t b]]->uP d (Q c [D.t a,D.t b] 2
 0))) (uP N (Q none [] 0 (-1)))) (uP N (Q none [] 0 (-1))))) (∃ a:Int,(x0.cell 0)=D.j a/\Br (a==9) (∃ a b,∃ c:Nat,(x0.cell 8)=D.sl
 a 9 b c/\Br ((b.length:Int)==1) (∃ a,(x0.cell 1)=D.t a/\∃ b,(x0.cell 2)=D.t b/\w2 (2=([D.t a,D.t b]).length/\2=2)
 (∀ c d,N<=d->Fresh N d c [D.ag [D.t a,D.t b]]->uP d (Q c [D.t a,D.t b] 2 0))) (uP N (Q none [] 0 (-1)))) (uP N (Q none [] 0
 (-1)))))):ACalls prog 163 [.sl 0,.int .i64] [PV.dg 9 x0] N Q:=
  eE H0 h
theorem zFs (N:Nat) (I:D) (Q:QT [.row 9 0]) (h :
Bel N I->∃ n:Int,(I.cell 0)=D.j n/\Br (n==1) (∃ s,(I.cell 1)=D.t s/\(1=([D.t s]).length/\1=1)/\uP N (Q [D.t s] 1)) (∀ b,N<=b ->
 ACalls prog 163 [.sl 0,.i] [.dg 9 I] b (λa c d e f=>b<=f->Bel f (D.sl a 0 c d)->∃ b g,∃ h:Nat,(I.cell 8)=D.sl b 9 g h /\
 xR Q N e 0 0 b g h (g.length:Int) 0 a c d [] 0 f))):ACalls prog 124 [.row 9 0] [PV.dg 9 I] N Q:=
  eE qp h
theorem zCE (N:Nat) (n1:Int) (Q:QT [.row 9 0]) (h :
Bel N (D.sl none 0 [] 0)->Br (decide (n1<0)) False (Br (decide (IntKind.i64.wrap (n1 - 0)>0)) (((0:Int)<=(0:Int)/\(0:Int)<=(0:Int)/\(0 :
 Int)<=(0:Int))/\(0<=IntKind.i64.wrap (n1 - 0)/\(IntKind.i64.wrap (n1 - 0)*16)<=140737488355328/\IntKind.i64.wrap (n1 - 0)<=140737488355328)/\∀ (c :
 Nat),((0:Int)<=(0:Int)/\0<=(c:Int))/\0<=(List.replicate (IntKind.i64.wrap (n1 - 0)).toNat (D.t b0)).length/\(0=(List.take 0 (List.replicate
 (IntKind.i64.wrap (n1 - 0)).toNat (D.t b0))).length/\c=c)/\∀ a,N<=a->Q (List.take 0 (List.replicate (IntKind.i64.wrap (n1 - 0)).toNat (D.t b0))) c a)
 (uP N (Q [] 0)))):ACalls prog 87 [.row 9 0] [PV.sv none 0 [] 0,PV.int .i64 n1] N Q:=
  eE zBa h
theorem zAZ (N:Nat) (a0:Option Addr) (e0:List D) (I:Nat) (Q:QT [.sl 0]) (h :
Bel N (D.sl a0 0 e0 I)->yn Q N a0 e0 I 0 a0 e0 I (e0.length:Int) 0 N):ACalls prog 46 [.sl 0] [PV.sv a0 0 e0 I] N Q:=
 eE wn h
theorem zDW (N:Nat) (a0:Option Addr) (e0:List D) (I:Nat) (a1:Option Addr) (e1:List D) (c1:Nat) (Q:QT [.row 9 0]) (h :
Bel N (D.sl a0 0 e0 I)->Bel N (D.sl a1 0 e1 c1)->(2=([D.sl a0 0 e0 I,D.sl a1 0 e1 c1]).length/\2=2)/\∀ a,ApA a [D.sl a0 0 e0 I,D.sl a1 0 e1
 c1]->∀ b,N<=b->wa b [a]->ACalls prog 46 [.sl 0] [.sv a 0 [D.sl a0 0 e0 I,D.sl a1 0 e1 c1] 2] b (λc d e f=>b<=f->Off [a] (D.sl c 0 d
 e)/\(Bel f (D.sl c 0 d e)->ym Q N 0 0 c d e (d.length:Int) 0 [] 0 f))):ACalls prog 72 [.row 9 0] [PV.sv a0 0 e0 I,PV.sv a1 0 e1 c1] N Q:=
  eE rQ h
theorem zLe (N:Nat) (s0:ByteArray) (a1:Option Addr) (e1:List D) (c1:Nat) (Q:QT [.str]) (h :
Bel N (D.sl a1 0 e1 c1)->ub Q N s0 a1 e1 c1 1 N):ACalls prog 86 [.str] [PV.str s0,PV.sv a1 0 e1 c1] N Q:=
 eE zDt h
theorem zEs (N:Nat) (a0:Option Addr) (e0:List D) (I:Nat) (Q:QT [.str]) (h :
Bel N (D.sl a0 0 e0 I)->kS 86 [.str (bytes [118]),.sv a0 0 e0 I] N (λs a=>uP a (Q s))):ACalls prog 45 [.str] [PV.sv a0 0 e0 I] N Q:=
 eE H0 h
theorem zEJ (N:Nat) (n0:Int) (Q:QT [.str]) (h :
kS 161 [.j n0] N (λs a=>uP a (Q s))):ACalls prog 122 [.str] [PV.int .i64 n0] N Q:=
 eE H0 h
theorem zLq (N:Nat) (s0:ByteArray) (Q:QT [.ag 9]) (h :
∀ a,N<=a->Q (D.ag [D.j 1,D.t s0,D.t b0,D.j 0,D.j 0,D.sl none 2 [] 0,D.j 0,D.sl none 2 [] 0,D.sl none 9 [] 0]) a):ACalls prog 89 [.ag 9] [PV.str s0] N Q:=
  eE H0 h
theorem zGy (N:Nat) (x0:D) (Q:QT [.sl 0,.int .i64]) (h :
Bel N x0->∃ n:Int,(x0.cell 0)=D.j n/\Br (n==6) (∃ a b,∃ c:Nat,(x0.cell 8)=D.sl a 9 b c/\Br ((b.length:Int)==1) (∃ s,(x0.cell 1) =
 D.t s/\w2 (1=([D.t s]).length/\1=1) (∀ a b,N<=b->Fresh N b a [D.ag [D.t s]]->uP b (Q a [D.t s] 1 0))) (∃ a:Int,(x0.cell 0)=D.j a /\
 Br (a==8) (∃ a b,∃ c:Nat,(x0.cell 8)=D.sl a 9 b c/\Br ((b.length:Int)==2) (∃ a,(x0.cell 1)=D.t a/\w2 (1=([D.t
 a]).length/\1=1) (∀ b c,N<=c->Fresh N c b [D.ag [D.t a]]->uP c (Q b [D.t a] 1 1))) (∃ a:Int,(x0.cell 0)=D.j a/\Br (a==9) (∃
 a b,∃ c:Nat,(x0.cell 8)=D.sl a 9 b c/\Br ((b.length:Int)==1) (∃ a,(x0.cell 1)=D.t a/\∃ b,(x0.cell 2)=D.t b/\w2 (2 =
 ([D.t a,D.t b]).length/\2=2) (∀ c d,N<=d->Fresh N d c [D.ag [D.t a,D.t b]]->uP d (Q c [D.t a,D.t b] 2 0))) (w2 (0=0/\0=0)
 (∀ a b,N<=b->Fresh N b a [D.ag []]->uP b (Q a [] 0 (-1))))) (w2 (0=0/\0=0) (∀ a b,N<=b->Fresh N b a [D.ag []]->uP b (Q a [] 0
 (-1)))))) (∃ a:Int,(x0.cell 0)=D.j a/\Br (a==9) (∃ a b,∃ c:Nat,(x0.cell 8)=D.sl a 9 b c/\Br ((b.length:Int)==1) (∃
 a,(x0.cell 1)=D.t a/\∃ b,(x0.cell 2)=D.t b/\w2 (2=([D.t a,D.t b]).length/\2=2) (∀ c d,N<=d->Fresh N d c [D.ag [D.t a,
 D.t b]]->uP d (Q c [D.t a,D.t b] 2 0))) (w2 (0=0/\0=0) (∀ a b,N<=b->Fresh N b a [D.ag []]->uP b (Q a [] 0 (-1))))) (w2 (0
 = 0/\0=0) (∀ a b,N<=b->Fresh N b a [D.ag []]->uP b (Q a [] 0 (-1))))))) (∃ a:Int,(x0.cell 0)=D.j a/\Br (a==8) (∃ a
 b,∃ c:Nat,(x0.cell 8)=D.sl a 9 b c/\Br ((b.length:Int)==2) (∃ a,(x0.cell 1)=D.t a/\w2 (1=([D.t a]).length/\1=1) (∀
 b c,N<=c->Fresh N c b [D.ag [D.t a]]->uP c (Q b [D.t a] 1 1))) (∃ a:Int,(x0.cell 0)=D.j a/\Br (a==9) (∃ a b,∃ c
 : Nat,(x0.cell 8)=D.sl a 9 b c/\Br ((b.length:Int)==1) (∃ a,(x0.cell 1)=D.t a/\∃ b,(x0.cell 2)=D.t b/\w2 (2=([D.t a,D.t
 b]).length/\2=2) (∀ c d,N<=d->Fresh N d c [D.ag [D.t a,D.t b]]->uP d (Q c [D.t a,D.t b] 2 0))) (w2 (0=0/\0=0) (∀ a
 b,N<=b->Fresh N b a [D.ag []]->uP b (Q a [] 0 (-1))))) (w2 (0=0/\0=0) (∀ a b,N<=b->Fresh N b a [D.ag []]->uP b (Q a
 [] 0 (-1)))))) (∃ a:Int,(x0.cell 0)=D.j a/\Br (a==9) (∃ a b,∃ c:Nat,(x0.cell 8)=D.sl a 9 b c/\Br ((b.length:Int)==1)
 (∃ a,(x0.cell 1)=D.t a/\∃ b,(x0.cell 2)=D.t b/\w2 (2=([D.t a,D.t b]).length/\2=2) (∀ c d,N<=d->Fresh N d c [D.ag
 [D.t a,D.t b]]->uP d (Q c [D.t a,D.t b] 2 0))) (w2 (0=0/\0=0) (∀ a b,N<=b->Fresh N b a [D.ag []]->uP b (Q a [] 0
 (-1))))) (w2 (0=0/\0=0) (∀ a b,N<=b->Fresh N b a [D.ag []]->uP b (Q a [] 0 (-1))))))):ACalls prog 120 [.sl 0,.int .i64] [PV.dg 9 x0] N Q:=
  eE H0 h
theorem zCl (N:Nat) (a0:Option Addr) (e0:List D) (I:Nat) (J:ByteArray) (Q:QT [.sl 0]) (h :
Bel N (D.sl a0 0 e0 I)->yb Q N a0 e0 I J 0 0 0 [] 0 N):ACalls prog 121 [.sl 0] [PV.sv a0 0 e0 I,PV.str J] N Q:=
 eE sM h
theorem zCz (N:Nat) (a0:Option Addr) (e0:List D) (I:Nat) (a1:Option Addr) (e1:List D) (c1:Nat) (Q:QT [.row 9 0]) (h :
Bel N (D.sl a0 0 e0 I)->Bel N (D.sl a1 0 e1 c1)->yj Q N a0 e0 I a1 e1 c1 0 0 0 [] 0 N):ACalls prog 36 [.row 9 0] [PV.sv a0 0 e0 I,PV.sv a1 0 e1 c1] N Q:=
 eE uQ h
theorem zF3 (N:Nat) (I:D) (Q:QT [.sl 0]) (h :
Bel N I->∃ n:Int,(I.cell 0)=D.j n/\Br (n==1) (∃ s,(I.cell 1)=D.t s/\w2 (1=([D.t s]).length/\1=1) (∀ a b,N<=b->Fresh N b a [D.ag
 [D.t s]]->uP b (Q a [D.t s] 1))) (∀ a,N<=a->ACalls prog 120 [.sl 0,.i] [.dg 9 I] a (λb c d e f=>a<=f->Bel f (D.sl b 0 c d) ->
 yM Q N b c d e 0 0 0 I [] 0 f))):ACalls prog 81 [.sl 0] [PV.dg 9 I] N Q:=
  eE tY h
theorem zD7 (N:Nat) (n0:Int) (Q:QT [.str]) (h :
Br (n0==0) (uP N (Q (bytes [48]))) (yx Q N n0 (decide (n0<0)) b0 N)):ACalls prog 77 [.str] [PV.int .i64 n0] N Q:=
 eE qX h
theorem zD4 (N:Nat) (a0:Option Addr) (e0:List D) (I:Nat) (Q:QT [.str]) (h :
Bel N (D.sl a0 0 e0 I)->wM Q N a0 e0 I 1 N):ACalls prog 35 [.str] [PV.sv a0 0 e0 I] N Q:=
 eE qO h
theorem zDr (N:Nat) (s0:ByteArray) (Q:QT [.ag 9]) (h :
∀ a,N<=a->Q (D.ag [D.j 1,D.t s0,D.t b0,D.j 0,D.j 0,D.sl none 2 [] 0,D.j 0,D.sl none 2 [] 0,D.sl none 9 [] 0]) a):ACalls prog 82 [.ag 9] [PV.str s0] N Q:=
  eE H0 h
theorem rU (Q:QT [.row 9 0]) (N0:Nat) (n4:Int) (m5 c5:Nat) (ae:Option Addr) (J:List D) (ah:Nat) (ac I:Int) (O:Option Addr) (aa:List D) (ab:Nat) (r1:List D) (q1:Nat) (N:Nat) (h :
Br (decide (I<ac)) ((0<=I/\I<(J.length:Int))/\∀ b,N<=b->ACalls prog 124 [.row 9 0] [.dg 9 (List.getD J I.toNat default)] b (fun
 c d e=>b<=e->Bel e (D.ag c)->Br (I==n4) (∀ b,e<=b->BCalls prog 164 [Sh.bk 0,.sl 0,.sl 0] [.sb 0 0 0 c.length d,.fn 165 [.pb 1 0 0 0]]
 [Bx.arr 9 0 c d,Bx.var [.sv O 0 aa ab]] b (λ_ a c d e f g h=>b<=h->Bel h (D.sl a 0 c d)->Bel h (D.sl e 0 f g) ->
 (m5=r1.length/\c5=q1)/\∀ a,ApA a r1->(c.length=c.length/\d=d)/\∀ b,ApA b c->∀ i,h<=i->wa i [a,b]->ACalls
 prog 72 [.row 9 0] [.sv a 0 r1 c5,.sv b 0 c d] i (λc d h=>i<=h->Off [a,b] (D.ag c)/\(Bel h (D.ag c)->xR Q
 N0 n4 c.length d ae J ah ac (IntKind.i64.wrap (I+1)) e f g c d h)))) ((m5=r1.length/\c5=q1)/\∀ a,ApA a r1->(c.length =
 c.length/\d=d)/\∀ b,ApA b c->∀ f,e<=f->wa f [a,b]->ACalls prog 72 [.row 9 0] [.sv a 0 r1 c5,.sv b 0 c d] f (λc d e=>
 f<=e->Off [a,b] (D.ag c)/\(Bel e (D.ag c)->xR Q N0 n4 c.length d ae J ah ac (IntKind.i64.wrap (I+1)) O aa
 ab c d e))))) ((m5=r1.length/\c5=q1)/\uP N (Q r1 c5))):xR Q N0 n4 m5 c5 ae J ah ac I O aa ab r1 q1 N:=
  hE qp h
theorem uM (Q:QT [.sl 0]) (N0:Nat) (a0:Option Addr) (e0:List D) (O:Nat) (n3:Int) (a9:Option Addr) (J:List D) (c9:Nat) (n10 I:Int) (N:Nat) (h :
Br (decide (I<n10)) ((0<=I/\I<(J.length:Int))/\∃ a b,∃ c:Nat,List.getD J I.toNat default=D.sl a 0 b c/\Br (decide
 (IntKind.i64.wrap (n3+(b.length:Int))<0)) False (yn Q N0 a0 e0 O (IntKind.i64.wrap (n3+(b.length:Int))) a9 J c9 n10
 (IntKind.i64.wrap (I+1)) N)) (∀ a,N<=a->ACalls prog 87 [.row 9 0] [.sv none 0 [] 0,.j n3] a (λb c d=>a<=d->Bel d (D.ag b) ->
 yA Q N0 b.length c a0 e0 O (e0.length:Int) 0 b c d))):yn Q N0 a0 e0 O n3 a9 J c9 n10 I N:=
  hE wn h
theorem tT (Q:QT [.row 9 0]) (N0:Nat) (m5 O:Nat) (aa:Option Addr) (I:List D) (ab:Nat) (J n14:Int) (r0:List D) (q0:Nat) (N:Nat) (h :
Br (decide (n14<J)) ((0<=n14/\n14<(I.length:Int))/\∃ s,List.getD I n14.toNat default=D.t s/\(m5=r0.length/\O=q0)/\∀ a,ApA a r0 ->
 ∀ d,N<=d->wa d [a]->ACalls prog 117 [.bool] [.sv a 0 r0 O,.str s] d (λb a=>d<=a->Br (!b) ((m5=r0.length/\O=q0)/\zB r0 [D.t s]
 16/\∀ (c:Nat),ym Q N0 (r0++[D.t s]).length c aa I ab J (IntKind.i64.wrap (n14+1)) (r0++[D.t s]) c a) (ym Q N0
 m5 O aa I ab J (IntKind.i64.wrap (n14+1)) r0 q0 a))) ((m5=r0.length/\O=q0)/\uP N (Q r0 O))):ym Q N0 m5 O aa I ab J n14 r0 q0 N:=
  hE rQ h
theorem zGt (Q:QT [.str]) (N0:Nat) (s0:ByteArray) (a1:Option Addr) (e1:List D) (c1:Nat) (n5:Int) (N:Nat) (h :
kS 122 [.j n5] N (fun s a=>(s0.size+s.size:Nat)<=9223372036854775807/\kB 117 [.sv a1 0 e1 c1,.str (s0++s)] a (fun b a=>Br (!b) (uP a (Q
 (s0++s))) (ub Q N0 s0 a1 e1 c1 (IntKind.i64.wrap (n5+1)) a)))):ub Q N0 s0 a1 e1 c1 n5 N:=
  hE zDt h
theorem tA (Q:QT [.sl 0]) (N0:Nat) (a0:Option Addr) (e0:List D) (c0:Nat) (O:ByteArray) (m5 c5:Nat) (I:Int) (r0:List D) (J:Nat) (N:Nat) (h :
Br (decide (I<(e0.length:Int))) ((0<=I/\I<(e0.length:Int))/\∃ s,List.getD e0 I.toNat default=D.t s/\Br (!(ByteArray.toList s ==
 ByteArray.toList O)) ((0<=I/\I<(e0.length:Int))/\∃ a,List.getD e0 I.toNat default=D.t a/\(m5=r0.length/\c5=J)/\zB r0 [D.t a] 16
 /\ ∀ (c:Nat),yb Q N0 a0 e0 c0 O (r0++[D.t a]).length c (IntKind.i64.wrap (I+1)) (r0++[D.t a]) c N) (yb Q N0 a0
 e0 c0 O m5 c5 (IntKind.i64.wrap (I+1)) r0 J N)) (w3 (m5=r0.length/\c5=J) (∀ a b,N<=b->Fresh N0 b a [D.ag r0]->uP b (Q a r0 J)))):yb Q N0 a0 e0 c0 O m5 c5 I r0 J N:=
  hE sM h
theorem tR (Q:QT [.row 9 0]) (N0:Nat) (a0:Option Addr) (e0:List D) (c0:Nat) (a1:Option Addr) (e1:List D) (c1 O J:Nat) (I:Int) (r0:List D) (q0:Nat) (N:Nat) (h :
Br (decide (I<(e0.length:Int))) ((0<=I/\I<(e0.length:Int))/\∃ s,List.getD e0 I.toNat default=D.t s/\(O=r0.length/\J=q0)/\∀ a,
 ApA a r0->∀ b,N<=b->wa b [a]->ACalls prog 78 [.i] [.sv a 0 r0 J,.str s] b (λn a=>b<=a->Br (decide (n<0)) ((0<=I/\I<(e0.length :
 Int))/\∃ b,List.getD e0 I.toNat default=D.t b/\(O=r0.length/\J=q0)/\zB r0 [D.t b] 16/\∀ (c:Nat),yj Q N0 a0 e0 c0
 a1 e1 c1 (r0++[D.t b]).length c (IntKind.i64.wrap (I+1)) (r0++[D.t b]) c a) (yj Q N0 a0 e0 c0 a1 e1 c1 O J (IntKind.i64.wrap (I
 + 1)) r0 q0 a))) (yL Q N0 a1 e1 c1 O J 0 r0 q0 N)):yj Q N0 a0 e0 c0 a1 e1 c1 O J I r0 q0 N:=
  hE uQ h
theorem rF (Q:QT [.sl 0]) (N0:Nat) (a3:Option Addr) (e3:List D) (c3:Nat) (n4:Int) (m5 c5:Nat) (I:Int) (J:D) (r1:List D) (O:Nat) (N:Nat) (h :
∃ a b,∃ c:Nat,(J.cell 8)=D.sl a 9 b c/\Br (decide (I<(b.length:Int))) (∃ a b,∃ c:Nat,(J.cell 8)=D.sl a 9 b c/\(0<=I
 /\ I<(b.length:Int))/\kL 0 81 [.dg 9 (List.getD b I.toNat default)] N (λa b c d=>yw Q N0 a3 e3 c3 n4 m5 c5 I a b
 c 0 J r1 O d)) (w3 (m5=r1.length/\c5=O) (∀ a b,N<=b->Fresh N0 b a [D.ag r1]->uP b (Q a r1 O)))):yM Q N0 a3 e3 c3 n4 m5 c5 I J r1 O N:=
  hE tY h
theorem zCi (Q:QT [.str]) (N0:Nat) (n0:Int) (J:Bool) (I:ByteArray) (N:Nat) (h :
Br (bne n0 0) ((10:Int)≠(0:Int)/\Br (decide (Int.tmod n0 10<0)) (1<=([D.lit (.int IntKind.u8 (IntKind.u8.wrap (IntKind.i64.wrap (48 +
 IntKind.i64.wrap (0 - Int.tmod n0 10)))))]).length/\∃ a:List Int,List.take 1 [D.lit (.int IntKind.u8 (IntKind.u8.wrap (IntKind.i64.wrap (48 +
 IntKind.i64.wrap (0 - Int.tmod n0 10)))))]=List.map (λn=>D.lit (.int IntKind.u8 n)) a/\(ByteArray.size (bytesOf a)+I.size:Nat) <=
 9223372036854775807/\(10:Int)≠(0:Int)/\yx Q N0 (IntKind.i64.wrap (Int.tdiv n0 10)) J (bytesOf a++I) N) (1<=([D.lit (.int
 IntKind.u8 (IntKind.u8.wrap (IntKind.i64.wrap (48+Int.tmod n0 10))))]).length/\∃ a:List Int,List.take 1 [D.lit (.int IntKind.u8 (IntKind.u8.wrap
 (IntKind.i64.wrap (48+Int.tmod n0 10))))]=List.map (λa=>D.lit (.int IntKind.u8 a)) a/\(ByteArray.size (bytesOf a)+I.size:Nat) <=
 9223372036854775807/\(10:Int)≠(0:Int)/\yx Q N0 (IntKind.i64.wrap (Int.tdiv n0 10)) J (bytesOf a++I) N)) (Br J ((1+I.size :
 Nat)<=9223372036854775807/\uP N (Q (bytes [45]++I))) (uP N (Q I)))):yx Q N0 n0 J I N:=
  hE qX h
theorem zBg (Q:QT [.str]) (N0:Nat) (a0:Option Addr) (e0:List D) (c0:Nat) (n3:Int) (N:Nat) (h :
kS 77 [.j n3] N (fun s a=>(1+s.size:Nat)<=9223372036854775807/\∀ b,a<=b->ACalls prog 78 [.i] [.sv a0 0 e0 c0,.str (bytes [118]++s)] b
 (fun n a=>b<=a->Br (decide (n<0)) (uP a (Q (bytes [118]++s))) (wM Q N0 a0 e0 c0 (IntKind.i64.wrap (n3+1)) a)))):wM Q N0 a0 e0 c0 n3 N:=
  hE qO h
theorem tv (N:Nat) (m0 c0:Nat) (aa:List D) (ab:Nat) (I:Option Addr) (J:List D) (O:Nat) (Q:QT [(Sh.bk 0),(Sh.sl 0),(Sh.sl 0)]) (h:∀ E:Env,
Bel N (D.sl none 0 aa ab)->Bel N (D.sl I 0 J O)->(m0=aa.length/\c0=ab)/\∀ a,ApA a aa->∀ b,ApA (Option.some b)
 [D.sl I 0 J O]->∀ c,N<=c->wa c [a,Option.some b]->ACalls prog 162 [.i] [.sv a 0 aa c0,.fn 165 [.pd b 0 (D.sl I 0 J O)]]
 c (λn a=>c<=a->Br (n==(-1)) (vW E [.arr 9 0 [] 0,.var [.sv none 0 [] 0]]/\(m0=aa.length/\c0=ab)/\uP a (Q (D.j 0) none aa ab I
 J O)) (zm E Q N m0 c0 n (IntKind.i64.wrap (n+1)) aa ab I J O a))):BCalls prog 164 [(Sh.bk 0),(Sh.sl 0),(Sh.sl 0)] [.sb 0 0 0 m0 c0,.fn 165 [.pb 1 0 0 0]] [.arr 9 0 aa ab,.var [.sv I 0 J O]] N Q:=
  bE vM h
theorem vi (Q:QT [.sl 0]) (N0:Nat) (m6 c6:Nat) (a25:Option Addr) (e25:List D) (c25:Nat) (n26 n27:Int) (r0:List D) (q0:Nat) (N:Nat) (h :
Br (decide (n27<n26)) ((0<=n27/\n27<(e25.length:Int))/\∃ a b,∃ c:Nat,List.getD e25 n27.toNat default=D.sl a 0 b c/\(m6=r0.length/\c6 =
 q0)/\zB r0 b 16/\∀ (a:Nat),yA Q N0 (r0++b).length a a25 e25 c25 n26 (IntKind.i64.wrap (n27+1)) (r0++b) a N) (w3
 (m6=r0.length/\c6=q0) (∀ a b,N<=b->Fresh N0 b a [D.ag r0]->uP b (Q a r0 q0)))):yA Q N0 m6 c6 a25 e25 c25 n26 n27 r0 q0 N:=
  hE wn h
theorem tw (Q:QT [.row 9 0]) (N0:Nat) (a1:Option Addr) (e1:List D) (c1 m5 c5:Nat) (n7:Int) (r0:List D) (q0:Nat) (N:Nat) (h :
Br (decide (n7<(e1.length:Int))) ((0<=n7/\n7<(e1.length:Int))/\∃ s,List.getD e1 n7.toNat default=D.t s/\(m5=r0.length/\c5=q0)/\∀ a,
 ApA a r0->∀ b,N<=b->wa b [a]->ACalls prog 78 [.i] [.sv a 0 r0 c5,.str s] b (fun n a=>b<=a->Br (decide (n<0)) ((0<=n7/\n7<(e1.length :
 Int))/\∃ b,List.getD e1 n7.toNat default=D.t b/\(m5=r0.length/\c5=q0)/\zB r0 [D.t b] 16/\∀ (c:Nat),yL Q N0 a1 e1 c1
 (r0++[D.t b]).length c (IntKind.i64.wrap (n7+1)) (r0++[D.t b]) c a) (yL Q N0 a1 e1 c1 m5 c5 (IntKind.i64.wrap (n7+1)) r0 q0 a)))
 ((m5=r0.length/\c5=q0)/\uP N (Q r0 c5))):yL Q N0 a1 e1 c1 m5 c5 n7 r0 q0 N:=
  hE uQ h
theorem sO (Q:QT [.sl 0]) (N0:Nat) (a3:Option Addr) (e3:List D) (c3:Nat) (n4:Int) (m5 c5:Nat) (n6:Int) (a7:Option Addr) (e7:List D) (c7:Nat) (n8:Int) (y0:D) (r1:List D) (q1:Nat) (N:Nat) (h :
Br (decide (n8<(e3.length:Int))) (Br (n6==n4) ((0<=n8/\n8<(e3.length:Int))/\∃ s,List.getD e3 n8.toNat default=D.t s/\kL 0 121 [.sv a7 0 e7
 c7,.str s] N (fun a b c d=>yw Q N0 a3 e3 c3 n4 m5 c5 n6 a b c (IntKind.i64.wrap (n8+1)) y0 r1 q1 d)) ((m5=r1.length/\c5=q1)/\∀
 a,ApA a r1->Off [a] (D.sl a7 0 e7 c7)->∀ b,N<=b->wa b [a]->ACalls prog 36 [.row 9 0] [.sv a 0 r1 c5,.sv a7 0 e7 c7] b (fun c d e
 => b<=e->Off [a] (D.ag c)/\(Bel e (D.ag c)->yM Q N0 a3 e3 c3 n4 c.length d (IntKind.i64.wrap (n6+1)) y0 c d e))))
 ((m5=r1.length/\c5=q1)/\∀ a,ApA a r1->Off [a] (D.sl a7 0 e7 c7)->∀ b,N<=b->wa b [a]->ACalls prog 36 [.row 9 0] [.sv a 0 r1 c5,.sv
 a7 0 e7 c7] b (fun c d e=>b<=e->Off [a] (D.ag c)/\(Bel e (D.ag c)->yM Q N0 a3 e3 c3 n4 c.length d (IntKind.i64.wrap
 (n6+1)) y0 c d e)))):yw Q N0 a3 e3 c3 n4 m5 c5 n6 a7 e7 c7 n8 y0 r1 q1 N:=
  hE tY h
theorem t7 (N:Nat) (a0:Option Addr) (e0:List D) (O:Nat) (J:Addr) (I:D) (Q:QT [.int .i64]) (h :
Bel N (D.sl a0 0 e0 O)->yO Q N a0 e0 O J I (e0.length:Int) 0 N):ACalls prog 162 [.int .i64] [.sv a0 0 e0 O,.fn 165 [.pd J 0 I]] N Q:=
 eE ve h
theorem wh (E:Env) (Q:QT [(Sh.bk 0),(Sh.sl 0),(Sh.sl 0)]) (N0:Nat) (m0 c0:Nat) (n5 n6:Int) (r0:List D) (q0:Nat) (a1_0:Option Addr) (e1_0:List D) (c1_0:Nat) (N:Nat) (h :
Br (decide (n6<(m0:Int))) ((0<=n6/\n6<(m0:Int)/\(0+n6.toNat:Nat)<r0.length)/\(0+n6.toNat:Nat)<r0.length/\∃ s,List.getD r0 (0 +
 n6.toNat:Nat) default=D.t s/\∀ a,ApA (Option.some a) [D.sl a1_0 0 e1_0 c1_0]->∀ c,N<=c->wa c [Option.some a]->ACalls prog 165 [.bool] [.str
 s,.pd a 0 (D.sl a1_0 0 e1_0 c1_0)] c (fun b a=>c<=a->Br (!b) ((0<=n5/\n5<(m0:Int)/\(0+n5.toNat:Nat)<r0.length)/\(0+n5.toNat:Nat) <
 r0.length/\zm E Q N0 m0 c0 (IntKind.i64.wrap (n5+1)) (IntKind.i64.wrap (n6+1)) (List.set r0 (0+n5.toNat:Nat) (D.t s)) q0 a1_0
 e1_0 c1_0 a) (zm E Q N0 m0 c0 n5 (IntKind.i64.wrap (n6+1)) r0 q0 a1_0 e1_0 c1_0 a))) ((0<=n5/\n5<=(m0:Int)/\(m0:Int)<=(c0 :
 Int)/\n5<(c0))/\((0+n5.toNat:Nat)+(((m0:Int)).toNat - n5.toNat:Nat):Nat)<=r0.length/\(0<=n5/\n5<=(c0:Int))/\n5.toNat<=(List.take (0 +
 n5.toNat:Nat) r0++(List.replicate (((m0:Int)).toNat - n5.toNat:Nat) (D.t b0)++List.drop ((0+n5.toNat:Nat)+(((m0:Int)).toNat - n5.toNat:Nat)
 : Nat) r0)).length/\vW E [.arr 9 0 [] 0,.var [.sv none 0 [] 0]]/\(n5.toNat=(List.take n5.toNat (List.take (0+n5.toNat:Nat) r0++(List.replicate
 (((m0:Int)).toNat - n5.toNat:Nat) (D.t b0)++List.drop ((0+n5.toNat:Nat)+(((m0:Int)).toNat - n5.toNat:Nat):Nat) r0))).length/\c0=q0)/\∀ a,
 N<=a->Q (D.j 0) none (List.take n5.toNat (List.take (0+n5.toNat:Nat) r0++(List.replicate (((m0:Int)).toNat - n5.toNat:Nat) (D.t b0)++List.drop
 ((0+n5.toNat:Nat)+(((m0:Int)).toNat - n5.toNat:Nat):Nat) r0))) q0 a1_0 e1_0 c1_0 a)):zm E Q N0 m0 c0 n5 n6 r0 q0 a1_0 e1_0 c1_0 N:=
  hE vM h
theorem wx (Q:QT [.int .i64]) (N0:Nat) (a0:Option Addr) (e0:List D) (c0:Nat) (J:Addr) (I:D) (n7 O:Int) (N:Nat) (h :
Br (decide (O<n7)) ((0<=O/\O<(e0.length:Int))/\∃ s,List.getD e0 O.toNat default=D.t s/\kB 165 [.str s,.pd J 0 I] N (λb a=>Br
 b (uP a (Q O)) (yO Q N0 a0 e0 c0 J I n7 (IntKind.i64.wrap (O+1)) a))) (uP N (Q (-1)))):yO Q N0 a0 e0 c0 J I n7 O N:=
  hE ve h
theorem zAY (N:Nat) (s0:ByteArray) (a1:Addr) (I:D) (Q:QT [.bool]) (h :
∃ a d,∃ c:Nat,I=D.sl a 0 d c/\kB 117 [.sv a 0 d c,.str s0] N (λb a=>uP a (Q b)) ):ACalls prog 165 [.bool] [.str s0,.pd a1 0 I] N Q:=
  eE H0 h
end Go.Proofs.YtlahkdflngobiaaGreatDoor
set_option maxRecDepth 100000
namespace Go.Proofs.YtlahkdflngobiaaGreatDoor
open Go Go.Proofs Go.Proofs.Tryz
def zCN:Hint:=⟨[hc 3 [1,3,4]],[],[(5,hs 9 [ec 6 [17]])]⟩
def vh (Q:QT [.int .i64]) (N0:Nat) (n3 I:Int) (J:D) (N:Nat):Prop:=AT prog 29 [.int .i64] Q N0 .ord (zD prog 29 3) ⟨an 1 (.pb 0 0 0 0::an 1 (.int .i64 n3::.int .i64 I::an 16 [])),[.vd J 9],N,none⟩
theorem zIx (N:Nat) (I:D) (Q:QT [.int .i64]) (h :
Bel N I->vh Q N 1 0 I N):ACalls prog 29 [.int .i64] [PV.dg 9 I] N Q:=
 eE zCN h
theorem ql (Q:QT [.int .i64]) (N0:Nat) (n3 n4:Int) (y0:D) (N:Nat) (h :
∃ a b,∃ c:Nat,(y0.cell 8)=D.sl a 9 b c/\Br (decide (n4<(b.length:Int))) (∃ a b,∃ c:Nat,(y0.cell 8)=D.sl a 9 b c/\(0<=n4
 /\ n4<(b.length:Int))/\∀ a,N<=a->ACalls prog 29 [.i] [.dg 9 (List.getD b n4.toNat default)] a (fun n b=>a<=b->vh Q N0
 (IntKind.i64.wrap (n3+n)) (IntKind.i64.wrap (n4+1)) y0 b)) (uP N (Q n3))):vh Q N0 n3 n4 y0 N:=
  hE zCN h
end Go.Proofs.YtlahkdflngobiaaGreatDoor
