/- Printed by gen.py: what the functions come to. -/
import Derived.Test.YtfajiphkncipoaaGreatDoorJh
set_option linter.unusedVariables false
set_option maxRecDepth 100000
namespace Go.Proofs.YtfajiphkncipoaaGreatDoor
open Go Go.Proofs Go.Proofs.Tryz
def zBB:Hint:=⟨[hc 3 [1,2,3,4] [] [(3,8,29,9)]],[],[(1,[en 0,en 1,en 2,en 3,en 4,en 5,en 6,en 7,en 8,en 9,en 11,en 12,en 15,{ i:=10,hard:=true,cl:=[14],fs:=[3,14] },{ i:=13,hard:=true,cl:=[17],fs:=[3,17] },en 14,eh 16]),(5,[en 0,en 1,en 2,en 3,en 4,en 5,en 6,{ i:=7,hard:=true,cl:=[33],fs:=[3,33] },{ i:=8,hard:=true,cl:=[34],fs:=[3,34] },eh 9,en 10,eh 11])]⟩
def zAY:Hint:=⟨[hc 3 [1,4,5,6] [] [(5,8,29,9)]],[],[(5,[en 0,en 1,en 2,en 3,en 4,en 5,{ i:=6,hard:=true,cl:=[20],fs:=[5,20] },{ i:=7,hard:=true,cl:=[21],fs:=[5,21] },eh 8,en 9,eh 10])]⟩
def zC4:Hint:=⟨[],[],[(1,[en 0,en 1,en 2,en 3,en 4,en 5,en 6,en 7,en 8,en 9,en 11,en 12,en 14,ec 10 [14],ec 13 [17],en 15,eh 16])]⟩
def u7:Hint:=⟨[hc 3 [1,2,4,5,10,11,12] [(5,29,9)]],[],[(5,hs 7 [{ i:=3,hard:=true,cl:=[18],fs:=[5,18] },{ i:=4,hard:=true,cl:=[19],fs:=[5,19] }]),(7,hs 4 [{ i:=2,hard:=true,cl:=[23],fs:=[5,23] }])]⟩
def zDZ:Hint:=⟨[],[],[(1,hs 3 [ec 1 [3]])]⟩
def xa (Q:QT [.pk,.int .i64,.str,.str,.int .i64,.dc,.dc,.dc,.dc,.row 29 9]) (N0:Nat) (n4:Int) (y0:D) (I:Int) (J O:ByteArray) (U Y:Int) (aa:Option Addr) (ab:List D) (ac:Nat) (ae:Int) (ah:Option Addr) (ai:List D) (aj:Nat) (ak:Option Addr) (al:List D) (am:Nat) (ao:Int) (aq au:ByteArray) (aw:Int) (ax ay az a6:D) (a7 a8:Nat) (r3:List D) (q3:Nat) (N:Nat):Prop:=AT prog 40 [.pk,.int .i64,.str,.str,.int .i64,.dc,.dc,.dc,.dc,.row 29 9] Q N0 .ord (zE prog 40 3) ⟨an 1 (.pb 0 0 0 0::.pb 1 0 0 0::.pb 2 0 0 0::.int .i64 n4::an 34 []),[.vd y0 9,.var [.int .i64 I,.str J,.str O,.int .i64 U,.int .i64 Y,.sv aa 2 ab ac,.int .i64 ae,.sv ah 2 ai aj,.sv ak 9 al am],.var [.int .i64 ao,.str aq,.str au,.int .i64 aw,.dc ax,.dc ay,.dc az,.dc a6,.sb 3 9 0 a7 a8],.arr 29 9 r3 q3],N,none⟩
def wl (Q:QT [.ag 9]) (N0:Nat) (a1:Option Addr) (e1:List D) (c1:Nat) (n6 I:Int) (J O:ByteArray) (U Y:Int) (aa:Option Addr) (ab:List D) (ac:Nat) (ae:Int) (ah:Option Addr) (ai:List D) (aj:Nat) (ak:Option Addr) (al:List D) (am:Nat) (ao:Int) (aq au:ByteArray) (aw ax:Int) (ay:Option Addr) (az:List D) (a6:Nat) (a7:Int) (a8:Option Addr) (ba:List D) (bb bc bg:Nat) (r2:List D) (q2:Nat) (N:Nat):Prop:=AT prog 87 [.ag 9] Q N0 .ord (zE prog 87 3) ⟨an 1 (.sv a1 9 e1 c1::an 2 (.pb 0 0 0 0::.pb 1 0 0 0::.int .i64 n6::an 19 [])),[.var [.int .i64 I,.str J,.str O,.int .i64 U,.int .i64 Y,.sv aa 2 ab ac,.int .i64 ae,.sv ah 2 ai aj,.sv ak 9 al am],.var [.int .i64 ao,.str aq,.str au,.int .i64 aw,.int .i64 ax,.sv ay 2 az a6,.int .i64 a7,.sv a8 2 ba bb,.sb 2 9 0 bc bg],.arr 29 9 r2 q2],N,none⟩
def yj (Q:QT [.pk,.int .i64,.str,.str,.int .i64,.dc,.dc,.dc,.dc,.row 29 9]) (N0:Nat) (m5 c5:Nat) (ao:Option Addr) (aq:List D) (au:Nat) (aw ax:Int) (y0:D) (I:Int) (J O:ByteArray) (U Y:Int) (aa:Option Addr) (ab:List D) (ac:Nat) (ae:Int) (ah:Option Addr) (ai:List D) (aj:Nat) (ak:Option Addr) (al:List D) (am:Nat) (r2:List D) (q2:Nat) (N:Nat):Prop:=AT prog 61 [.pk,.int .i64,.str,.str,.int .i64,.dc,.dc,.dc,.dc,.row 29 9] Q N0 .ord (zE prog 61 3) ⟨an 1 (.fn 33 []::.pb 0 0 0 0::an 1 (.pb 1 0 0 0::.sb 2 9 0 m5 c5::an 4 (.sv ao 9 aq au::.int .i64 aw::.int .i64 ax::an 13 []))),[.vd y0 9,.var [.int .i64 I,.str J,.str O,.int .i64 U,.int .i64 Y,.sv aa 2 ab ac,.int .i64 ae,.sv ah 2 ai aj,.sv ak 9 al am],.arr 29 9 r2 q2],N,none⟩
theorem zAe (N:Nat) (x0:D) (Q:QT [.pk,.int .i64,.str,.str,.int .i64,.dc,.dc,.dc,.dc,.row 29 9]) (h :
Bel N x0->∃ n:Int,(x0.cell 0)=D.j n/\∃ s,(x0.cell 1)=D.t s/\∃ a,(x0.cell 2)=D.t a/\∃ b:Int,(x0.cell 3)=D.j b/\kA 2 74 [.dg 2
 (D.sub x0 4 2)] N (fun x c=>kA 2 74 [.dg 2 (D.sub x0 6 2)] c (fun c d=>xa Q N 0 x0 0 b0 b0 0 0 none [] 0 0 none [] 0 none [] 0 n s a b
 (x.cell 0) (x.cell 1) (c.cell 0) (c.cell 1) 0 0 [] 0 d))):ACalls prog 40 [.pk,.int .i64,.str,.str,.int .i64,.dc,.dc,.dc,.dc,.row 29 9] [PV.dg 9 x0] N Q:=
  eE zBB h
theorem zHv (N:Nat) (n0:Int) (a1:Option Addr) (e1:List D) (c1:Nat) (Q:QT [.ag 9]) (h :
Bel N (D.sl a1 9 e1 c1)->wl Q N a1 e1 c1 0 0 b0 b0 0 0 none [] 0 0 none [] 0 none [] 0 n0 b0 b0 0 0 none [] 0 0 none [] 0 0 0 [] 0 N):ACalls prog 87 [.ag 9] [PV.int .i64 n0,PV.sv a1 9 e1 c1] N Q:=
 eE zAY h
theorem zI1 (N:Nat) (s0:ByteArray) (x1 x2:D) (Q:QT [.ag 9]) (h :
Bel N x1->Bel N x2->(2=([x1,x2]).length/\2=2)/\∀ a,ApA a [x1,x2]->∀ b,N<=b->wU b [a]->ACalls prog 87 [.ag 9] [.j 8,.sv a 9 [x1,x2]
 2] b (fun x c=>b<=c->Off [a] x/\(Bel c x->uP c (Q (D.ag [(x.cell 0),D.t s0,(x.cell 2),(x.cell 3),(x.cell 4),(x.cell 5),(x.cell 6),(x.cell 7),
 (x.cell 8)]))))):ACalls prog 160 [.ag 9] [PV.str s0,PV.dg 9 x1,PV.dg 9 x2] N Q:=
  eE H0 h
theorem zC2 (N:Nat) (I:D) (a1:Option Addr) (e1:List D) (c1:Nat) (Q:QT [.pk,.int .i64,.str,.str,.int .i64,.dc,.dc,.dc,.dc,.bk 1]) (h :
Bel N I->Bel N (D.sl a1 9 e1 c1)->∃ n:Int,(I.cell 0)=D.j n/\∃ s,(I.cell 1)=D.t s/\∃ a,(I.cell 2)=D.t a/\∃ b:Int,(I.cell 3) =
 D.j b/\kA 2 103 [.dg 2 (D.sub I 4 2)] N (λx c=>kA 2 103 [.dg 2 (D.sub I 6 2)] c (λc d=>uP d (Q n s a b (x.cell 0) (x.cell 1) (c.cell
 0) (c.cell 1) (D.sl a1 9 e1 c1))))):ACalls prog 64 [.pk,.int .i64,.str,.str,.int .i64,.dc,.dc,.dc,.dc,.bk 1] [PV.dg 9 I,PV.sv a1 9 e1 c1] N Q:=
  eE zC4 h
theorem zDu (N:Nat) (I:D) (Q:QT [.pk,.int .i64,.str,.str,.int .i64,.dc,.dc,.dc,.dc,.row 29 9]) (h :
Bel N I->∀ a,N<=a->ACalls prog 61 [.pk,.i,.str,.str,.i,.dc,.dc,.dc,.dc,.row 29 9] [.dg 9 I,.fn 33 []] a (λn s b c x d e f
 g h i=>a<=i->Bel i (D.ag g)->(g.length=g.length/\h=h)/\uP i (Q n s b c x d e f g h))):ACalls prog 33 [.pk,.int .i64,.str,.str,.int .i64,.dc,.dc,.dc,.dc,.row 29 9] [PV.dg 9 I] N Q:=
  eE zDZ h
theorem zGu (N:Nat) (n0:Int) (a1:Option Addr) (e1:List D) (c1:Nat) (Q:QT [.ag 9]) (h :
Bel N (D.sl a1 9 e1 c1)->∀ a,N<=a->Q (D.ag [D.j n0,D.t b0,D.t b0,D.j 0,D.j 0,D.sl none 2 [] 0,D.j 0,D.sl none 2 [] 0,D.sl a1 9 e1 c1]) a):ACalls prog 150 [.ag 9] [PV.int .i64 n0,PV.sv a1 9 e1 c1] N Q:=
 eE H0 h
theorem wv (Q:QT [.pk,.int .i64,.str,.str,.int .i64,.dc,.dc,.dc,.dc,.row 29 9]) (N0:Nat) (n4:Int) (y0:D) (ai:Int) (aj ak:ByteArray) (al am:Int) (ao:Option Addr) (aq:List D) (au:Nat) (aw:Int) (ax:Option Addr) (ay:List D) (az:Nat) (a6:Option Addr) (a7:List D) (a8:Nat) (aa:Int) (ab ac:ByteArray) (ae:Int) (I J O U:D) (ah Y:Nat) (r3:List D) (q3:Nat) (N:Nat) (h :
∃ a b,∃ c:Nat,(y0.cell 8)=D.sl a 9 b c/\Br (decide (n4<(b.length:Int))) (∃ a b,∃ c:Nat,(y0.cell 8)=D.sl a 9 b c/\(0<=n4
 /\ n4<(b.length:Int))/\∀ a,N<=a->ACalls prog 40 [.pk,.i,.str,.str,.i,.dc,.dc,.dc,.dc,.row 29 9] [.dg 9 (List.getD b n4.toNat default)]
 a (λn s b c x d e f g h i=>a<=i->Bel i (D.ag g)->(g.length=g.length/\h=h)/\∀ a j,i<=j->Fresh N0 j a
 [D.ag g,x,d,e,f,I,J,O,U,D.ag r3]->(ah=r3.length/\Y=q3)/\zB r3 [D.ag [D.j n,D.t s,D.t b,D.j c,x,d,e,
 f,D.sl a 9 g h]] 136/\∀ (i:Nat),xa Q N0 (IntKind.i64.wrap (n4+1)) y0 ai aj ak al am ao aq au aw ax ay az
 a6 a7 a8 aa ab ac ae I J O U (r3++[D.ag [D.j n,D.t s,D.t b,D.j c,x,d,e,f,D.sl a 9 g h]]).length i (r3 ++
 [D.ag [D.j n,D.t s,D.t b,D.j c,x,d,e,f,D.sl a 9 g h]]) i j)) ((ah=r3.length/\Y=q3)/\uP N (Q aa ab ac ae I J
 O U r3 Y))):xa Q N0 n4 y0 ai aj ak al am ao aq au aw ax ay az a6 a7 a8 aa ab ac ae I J O U ah Y r3 q3 N:=
  hE zBB h
theorem rR (Q:QT [.ag 9]) (N0:Nat) (a1:Option Addr) (e1:List D) (c1:Nat) (n6 am:Int) (ao aq:ByteArray) (au aw:Int) (ax:Option Addr) (ay:List D) (az:Nat) (a6:Int) (a7:Option Addr) (a8:List D) (ba:Nat) (bb:Option Addr) (bc:List D) (bg:Nat) (ab:Int) (ac ae:ByteArray) (ah ai:Int) (I:Option Addr) (J:List D) (O:Nat) (aj:Int) (U:Option Addr) (Y:List D) (aa ak al:Nat) (r2:List D) (q2:Nat) (N:Nat) (h :
Br (decide (n6<(e1.length:Int))) ((0<=n6/\n6<(e1.length:Int))/\∀ b,N<=b->ACalls prog 40 [.pk,.i,.str,.str,.i,.dc,.dc,.dc,.dc,.row
 29 9] [.dg 9 (List.getD e1 n6.toNat default)] b (λn s c d x e f g h i j=>b<=j->Bel j (D.ag h)->(h.length=h.length/\i=i)/\∀ a
 b,j<=b->Fresh N0 b a [D.ag h,x,e,f,g,D.sl I 2 J O,D.sl U 2 Y aa,D.ag r2]->(ak=r2.length/\al=q2)/\zB r2
 [D.ag [D.j n,D.t s,D.t c,D.j d,x,e,f,g,D.sl a 9 h i]] 136/\∀ (j:Nat),wl Q N0 a1 e1 c1 (IntKind.i64.wrap (n6+1)) am
 ao aq au aw ax ay az a6 a7 a8 ba bb bc bg ab ac ae ah ai I J O aj U Y aa (r2++[D.ag [D.j n,D.t s,
 D.t c,D.j d,x,e,f,g,D.sl a 9 h i]]).length j (r2++[D.ag [D.j n,D.t s,D.t c,D.j d,x,e,f,g,D.sl a 9 h i]]) j b)) (w3
 (ak=r2.length/\al=q2) (∀ a b,N<=b->Fresh N0 b a [D.ag r2,D.sl I 2 J O,D.sl U 2 Y aa]->uP b (Q (D.ag [D.j ab,D.t ac,
 D.t ae,D.j ah,D.j ai,D.sl I 2 J O,D.j aj,D.sl U 2 Y aa,D.sl a 9 r2 q2]))))):wl Q N0 a1 e1 c1 n6 am ao aq au aw ax ay az a6 a7 a8 ba bb bc bg ab ac ae ah ai I J O aj U Y aa ak al r2 q2 N:=
  hE zAY h
theorem rW (N:Nat) (I:D) (Q:QT [.pk,.int .i64,.str,.str,.int .i64,.dc,.dc,.dc,.dc,.row 29 9]) (h :
Bel N I->∃ a b,∃ c:Nat,(I.cell 8)=D.sl a 9 b c/\yj Q N 0 0 a b c (b.length:Int) 0 I 0 b0 b0 0 0 none [] 0 0 none [] 0
 none [] 0 [] 0 N):ACalls prog 61 [.pk,.int .i64,.str,.str,.int .i64,.dc,.dc,.dc,.dc,.row 29 9] [.dg 9 I,.fn 33 []] N Q:=
  eE u7 h
theorem vz (Q:QT [.pk,.int .i64,.str,.str,.int .i64,.dc,.dc,.dc,.dc,.row 29 9]) (N0:Nat) (m5 c5:Nat) (ax:Option Addr) (O:List D) (ay:Nat) (aw I:Int) (y0:D) (U:Int) (Y aa:ByteArray) (ab ac:Int) (ae:Option Addr) (ah:List D) (ai:Nat) (aj:Int) (ak:Option Addr) (al:List D) (am:Nat) (ao:Option Addr) (aq:List D) (au:Nat) (J:List D) (q2:Nat) (N:Nat) (h :
Br (decide (I<aw)) ((0<=I/\I<(O.length:Int))/\∀ b,N<=b->ACalls prog 33 [.pk,.i,.str,.str,.i,.dc,.dc,.dc,.dc,.row 29 9] [.dg
 9 (List.getD O I.toNat default)] b (λn s c d x e f g h i j=>b<=j->Bel j (D.ag h)->(h.length=h.length/\i=i)/\∀ a b,j<=b
 -> Fresh N0 b a [D.ag h,x,e,f,g,D.ag J]->(m5=J.length/\c5=q2)/\zB J [D.ag [D.j n,D.t s,D.t c,D.j d,x,e,f,g,D.sl a 9
 h i]] 136/\∀ (j:Nat),yj Q N0 (J++[D.ag [D.j n,D.t s,D.t c,D.j d,x,e,f,g,D.sl a 9 h i]]).length j ax O ay
 aw (IntKind.i64.wrap (I+1)) y0 U Y aa ab ac ae ah ai aj ak al am ao aq au (J++[D.ag [D.j n,D.t s,D.t c,D.j d,x,
 e,f,g,D.sl a 9 h i]]) j b)) ((m5=J.length/\c5=q2)/\∀ a,ApA a J->Off [a] y0->∀ b,N<=b->wU b [a]->ACalls prog 64 [.pk,
 .i,.str,.str,.i,.dc,.dc,.dc,.dc,Sh.bk 1] [.dg 9 y0,.sv a 9 J c5] b (λc d e f g h i j k l=>b<=l->k=D.sl a 9 J c5
 /\ Off [a] g/\Off [a] h/\Off [a] i/\Off [a] j/\(m5=J.length/\c5=q2)/\uP l (Q c d e f g h i j J c5)))):yj Q N0 m5 c5 ax O ay aw I y0 U Y aa ab ac ae ah ai aj ak al am ao aq au J q2 N:=
  hE u7 h
end Go.Proofs.YtfajiphkncipoaaGreatDoor
set_option maxRecDepth 100000
namespace Go.Proofs.YtfajiphkncipoaaGreatDoor
open Go Go.Proofs Go.Proofs.Tryz
def wb:Hint:=⟨[hc 2 [0,1,7,8]],[],[]⟩
def wN:Hint:=⟨[hc 5 [0,1,5,6]],[],[(12,hs 4 [{ i:=2,hard:=true,tr:=true }])]⟩
def rO:Hint:=⟨[hc 6 [3,4,5,22,23,24]],[],[(3,hs 8 [ec 1 [16]]),(8,hs 3 [ec 1 [29]])]⟩
def pj:Hint:=⟨[],[],[(5,hs 10 [{ i:=8,hard:=true,tr:=true }])]⟩
def xj:Hint:=⟨[hc 3 [0,3,9,10,11],hc 11 [6,25,26,27] [(6,9,0)]],[],[]⟩
def sA:Hint:=⟨[hc 3 [5,12,13,14] [(5,9,0)]],[],[]⟩
def zCO:Hint:=⟨[hc 3 [0,1,5]],[],[]⟩
def u6:Hint:=⟨[hc 3 [0,1,5,6] [(5,9,0)]],[],[]⟩
def vK:Hint:=⟨[hc 3 [0,1,5,6] [(5,9,0)],hc 8 [1,5,7] [(5,9,0)]],[],[]⟩
def uX:Hint:=⟨[hc 6 [1,3,4,5,6],hc 10 [1,3,4,5,6,7,8]],[],[(8,hs 7 [ec 5 [32]])]⟩
def rG:Hint:=⟨[hc 5 [0,3,4]],[],[]⟩
def s3:Hint:=⟨[hc 3 [0,3]],[],[]⟩
def yv (Q:QT [.row 9 0]) (N0:Nat) (n4:Int) (m5 c5:Nat) (U:Option Addr) (Y:List D) (aa:Nat) (ab ac:Int) (I:Option Addr) (J:List D) (O:Nat) (r1:List D) (q1:Nat) (N:Nat):Prop:=AT prog 148 [.row 9 0] Q N0 .ord (zE prog 148 6) ⟨an 3 (.pb 0 0 0 0::.int .i64 n4::.sb 1 0 0 m5 c5::an 16 (.sv U 9 Y aa::.int .i64 ab::.int .i64 ac::an 17 [])),[.var [.sv I 0 J O],.arr 9 0 r1 q1],N,none⟩
def yU (Q:QT [.sl 0]) (N0:Nat) (a0:Option Addr) (e0:List D) (c0:Nat) (O:Int) (a9:Option Addr) (U:List D) (Y:Nat) (I J:Int) (N:Nat):Prop:=AT prog 177 [.sl 0] Q N0 .ord (zE prog 177 3) ⟨.sv a0 0 e0 c0::an 2 (.int .i64 O::an 5 (.sv a9 0 U Y::.int .i64 I::.int .i64 J::an 24 [])),[],N,none⟩
def yO (Q:QT [.row 9 0]) (N0:Nat) (m5 c5:Nat) (I:Option Addr) (J:List D) (O:Nat) (U Y:Int) (r0:List D) (q0:Nat) (N:Nat):Prop:=AT prog 175 [.row 9 0] Q N0 .ord (zE prog 175 3) ⟨an 5 (.sb 0 0 0 m5 c5::an 6 (.sv I 0 J O::.int .i64 U::.int .i64 Y::an 13 [])),[.arr 9 0 r0 q0],N,none⟩
def vY (Q:QT [.str]) (N0:Nat) (I:ByteArray) (a1:Option Addr) (e1:List D) (c1:Nat) (J:Int) (N:Nat):Prop:=AT prog 192 [.str] Q N0 .ord (zE prog 192 3) ⟨.str I::.sv a1 0 e1 c1::an 3 (.int .i64 J::an 12 []),[],N,none⟩
def yH (Q:QT [.sl 0]) (N0:Nat) (a0:Option Addr) (e0:List D) (c0:Nat) (I:ByteArray) (J O:Nat) (U:Int) (r0:List D) (Y:Nat) (N:Nat):Prop:=AT prog 83 [.sl 0] Q N0 .ord (zE prog 83 3) ⟨.sv a0 0 e0 c0::.str I::an 3 (.sb 0 0 0 J O::.int .i64 U::an 21 []),[.arr 9 0 r0 Y],N,none⟩
def yN (Q:QT [.row 9 0]) (N0:Nat) (a0:Option Addr) (e0:List D) (c0:Nat) (a1:Option Addr) (e1:List D) (c1 I J:Nat) (O:Int) (r0:List D) (U:Nat) (N:Nat):Prop:=AT prog 84 [.row 9 0] Q N0 .ord (zE prog 84 3) ⟨.sv a0 0 e0 c0::.sv a1 0 e1 c1::an 3 (.sb 0 0 0 I J::.int .i64 O::an 43 []),[.arr 9 0 r0 U],N,none⟩
def zt (Q:QT [.sl 0]) (N0:Nat) (a3:Option Addr) (I:List D) (J:Nat) (O:Int) (U Y:Nat) (n6:Int) (y0:D) (r1:List D) (q1:Nat) (N:Nat):Prop:=AT prog 49 [.sl 0] Q N0 .ord (zE prog 49 6) ⟨an 1 (.pb 0 0 0 0::an 1 (.sv a3 0 I J::.int .i64 O::.sb 1 0 0 U Y::.int .i64 n6::an 48 [])),[.vd y0 9,.arr 9 0 r1 q1],N,none⟩
def za (Q:QT [.str]) (N0:Nat) (n0:Int) (I:Bool) (J:ByteArray) (N:Nat):Prop:=AT prog 194 [.str] Q N0 .ord (zE prog 194 5) ⟨.int .i64 n0::an 2 (.bool I::.str J::an 26 []),[],N,none⟩
def xS (Q:QT [.str]) (N0:Nat) (a0:Option Addr) (e0:List D) (c0:Nat) (I:Int) (N:Nat):Prop:=AT prog 179 [.str] Q N0 .ord (zE prog 179 3) ⟨.sv a0 0 e0 c0::an 2 (.int .i64 I::an 11 []),[],N,none⟩
def zf (Q:QT [.sl 0]) (N0:Nat) (m6 c6:Nat) (I:Option Addr) (J:List D) (O:Nat) (U Y:Int) (r0:List D) (q0:Nat) (N:Nat):Prop:=AT prog 177 [.sl 0] Q N0 .ord (zE prog 177 11) ⟨an 6 (.sb 0 0 0 m6 c6::an 18 (.sv I 0 J O::.int .i64 U::.int .i64 Y::an 8 [])),[.arr 9 0 r0 q0],N,none⟩
def zq (Q:QT [.row 9 0]) (N0:Nat) (a1:Option Addr) (e1:List D) (c1 I J:Nat) (O:Int) (r0:List D) (U:Nat) (N:Nat):Prop:=AT prog 84 [.row 9 0] Q N0 .ord (zE prog 84 8) ⟨an 1 (.sv a1 0 e1 c1::an 3 (.sb 0 0 0 I J::an 1 (.int .i64 O::an 42 []))),[.arr 9 0 r0 U],N,none⟩
def yc (Q:QT [.sl 0]) (N0:Nat) (a3:Option Addr) (I:List D) (J:Nat) (O:Int) (U Y:Nat) (n6:Int) (a7:Option Addr) (e7:List D) (c7:Nat) (n8:Int) (y0:D) (r1:List D) (q1:Nat) (N:Nat):Prop:=AT prog 49 [.sl 0] Q N0 .ord (zE prog 49 10) ⟨an 1 (.pb 0 0 0 0::an 1 (.sv a3 0 I J::.int .i64 O::.sb 1 0 0 U Y::.int .i64 n6::.sv a7 0 e7 c7::.int .i64 n8::an 46 [])),[.vd y0 9,.arr 9 0 r1 q1],N,none⟩
def zR (E:Env) (Q:QT [.bk 0,.sl 0,.sl 0]) (N0:Nat) (U c0:Nat) (Y n6:Int) (r0:List D) (q0:Nat) (I:Option Addr) (J:List D) (O:Nat) (N:Nat):Prop:=AT prog 173 [.bk 0,.sl 0,.sl 0] Q N0 (.io E [.arr 9 0 [] 0,.var [.sv none 0 [] 0]]) (zE prog 173 5) ⟨.sb 0 0 0 U c0::.fn 174 [.pb 1 0 0 0]::an 3 (.int .i64 Y::.int .i64 n6::an 35 []),[.arr 9 0 r0 q0,.var [.sv I 0 J O]],N,some (xB E 0 [.arr 9 0 [] 0,.var [.sv none 0 [] 0]],[])⟩
def zu (Q:QT [.int .i64]) (N0:Nat) (a0:Option Addr) (e0:List D) (c0:Nat) (J:Addr) (I:D) (O U:Int) (N:Nat):Prop:=AT prog 191 [.int .i64] Q N0 .ord (zE prog 191 2) ⟨.sv a0 0 e0 c0::.fn 174 [.pd J 0 I]::an 5 (.int .i64 O::.int .i64 U::an 10 []),[],N,none⟩
theorem zJD (N:Nat) (x0:D) (Q:QT [.sl 0,.int .i64]) (h :
Bel N x0->∃ n:Int,(x0.cell 0)=D.j n/\Br (n==6) (∃ a b,∃ c:Nat,(x0.cell 8)=D.sl a 9 b c/\Br ((b.length:Int)==1) (∃ s,(x0.cell 1) =
 D.t s/\w2 (1=([D.t s]).length/\1=1) (∀ a b,N<=b->Fresh N b a [D.ag [D.t s]]->uP b (Q a [D.t s] 1 0))) (∃ a:Int,(x0.cell 0)=D.j a /\
 Br (a==8) (∃ a b,∃ c:Nat,(x0.cell 8)=D.sl a 9 b c/\Br ((b.length:Int)==2) (∃ a,(x0.cell 1)=D.t a/\w2 (1=([D.t
 a]).length/\1=1) (∀ b c,N<=c->Fresh N c b [D.ag [D.t a]]->uP c (Q b [D.t a] 1 1))) (∃ a:Int,(x0.cell 0)=D.j a/\Br (a==9) (∃
 a b,∃ c:Nat,(x0.cell 8)=D.sl a 9 b c/\Br ((b.length:Int)==1) (∃ a,(x0.cell 1)=D.t a/\∃ b,(x0.cell 2)=D.t b/\w2 (2 =
 ([D.t a,D.t b]).length/\2=2) (∀ c d,N<=d->Fresh N d c [D.ag [D.t a,D.t b]]->uP d (Q c [D.t a,D.t b] 2 0))) (uP N (Q none [] 0
 (-1)))) (uP N (Q none [] 0 (-1))))) (∃ a:Int,(x0.cell 0)=D.j a/\Br (a==9) (∃ a b,∃ c:Nat,(x0.cell 8)=D.sl a 9 b c/\Br
 ((b.length:Int)==1) (∃ a,(x0.cell 1)=D.t a/\∃ b,(x0.cell 2)=D.t b/\w2 (2=([D.t a,D.t b]).length/\2=2) (∀ c d,N<=d->Fresh
 N d c [D.ag [D.t a,D.t b]]->uP d (Q c [D.t a,D.t b] 2 0))) (uP N (Q none [] 0 (-1)))) (uP N (Q none [] 0 (-1)))))) (∃ a:Int,(x0.cell 0) =
 D.j a/\Br (a==8) (∃ a b,∃ c:Nat,(x0.cell 8)=D.sl a 9 b c/\Br ((b.length:Int)==2) (∃ a,(x0.cell 1)=D.t a/\w2 (1 =
 ([D.t a]).length/\1=1) (∀ b c,N<=c->Fresh N c b [D.ag [D.t a]]->uP c (Q b [D.t a] 1 1))) (∃ a:Int,(x0.cell 0)=D.j a/\Br
 (a==9) (∃ a b,∃ c:Nat,(x0.cell 8)=D.sl a 9 b c/\Br ((b.length:Int)==1) (∃ a,(x0.cell 1)=D.t a/\∃ b,(x0.cell 2) =
 D.t b/\w2 (2=([D.t a,D.t b]).length/\2=2) (∀ c d,N<=d->Fresh N d c [D.ag [D.t a,D.t b]]->uP d (Q c [D.t a,D.t b] 2
 0))) (uP N (Q none [] 0 (-1)))) (uP N (Q none [] 0 (-1))))) (∃ a:Int,(x0.cell 0)=D.j a/\Br (a==9) (∃ a b,∃ c:Nat,(x0.cell 8)=D.sl
 a 9 b c/\Br ((b.length:Int)==1) (∃ a,(x0.cell 1)=D.t a/\∃ b,(x0.cell 2)=D.t b/\w2 (2=([D.t a,D.t b]).length/\2=2)
 (∀ c d,N<=d->Fresh N d c [D.ag [D.t a,D.t b]]->uP d (Q c [D.t a,D.t b] 2 0))) (uP N (Q none [] 0 (-1)))) (uP N (Q none [] 0
 (-1)))))):ACalls prog 145 [.sl 0,.int .i64] [PV.dg 9 x0] N Q:=
  eE H0 h
theorem zEH (N:Nat) (I:D) (Q:QT [.row 9 0]) (h :
Bel N I->∃ n:Int,(I.cell 0)=D.j n/\Br (n==1) (∃ s,(I.cell 1)=D.t s/\(1=([D.t s]).length/\1=1)/\uP N (Q [D.t s] 1)) (∀ b,N<=b ->
 ACalls prog 145 [.sl 0,.i] [.dg 9 I] b (λa c d e f=>b<=f->Bel f (D.sl a 0 c d)->∃ b g,∃ h:Nat,(I.cell 8)=D.sl b 9 g h /\
 yv Q N e 0 0 b g h (g.length:Int) 0 a c d [] 0 f))):ACalls prog 148 [.row 9 0] [PV.dg 9 I] N Q:=
  eE rO h
theorem zAg (N:Nat) (n1:Int) (Q:QT [.row 9 0]) (h :
Bel N (D.sl none 0 [] 0)->Br (decide (n1<0)) False (Br (decide (IntKind.i64.wrap (n1 - 0)>0)) (((0:Int)<=(0:Int)/\(0:Int)<=(0:Int)/\(0 :
 Int)<=(0:Int))/\(0<=IntKind.i64.wrap (n1 - 0)/\(IntKind.i64.wrap (n1 - 0)*16)<=140737488355328/\IntKind.i64.wrap (n1 - 0)<=140737488355328)/\∀ (c :
 Nat),((0:Int)<=(0:Int)/\0<=(c:Int))/\0<=(List.replicate (IntKind.i64.wrap (n1 - 0)).toNat (D.t b0)).length/\(0=(List.take 0 (List.replicate
 (IntKind.i64.wrap (n1 - 0)).toNat (D.t b0))).length/\c=c)/\∀ a,N<=a->Q (List.take 0 (List.replicate (IntKind.i64.wrap (n1 - 0)).toNat (D.t b0))) c a)
 (uP N (Q [] 0)))):ACalls prog 193 [.row 9 0] [PV.sv none 0 [] 0,PV.int .i64 n1] N Q:=
  eE pj h
theorem qk (N:Nat) (a0:Option Addr) (e0:List D) (c0:Nat) (Q:QT [.sl 0]) (h :
Bel N (D.sl a0 0 e0 c0)->yU Q N a0 e0 c0 0 a0 e0 c0 (e0.length:Int) 0 N):ACalls prog 177 [.sl 0] [PV.sv a0 0 e0 c0] N Q:=
 eE xj h
theorem zBz (N:Nat) (a0:Option Addr) (e0:List D) (c0:Nat) (a1:Option Addr) (e1:List D) (c1:Nat) (Q:QT [.row 9 0]) (h :
Bel N (D.sl a0 0 e0 c0)->Bel N (D.sl a1 0 e1 c1)->(2=([D.sl a0 0 e0 c0,D.sl a1 0 e1 c1]).length/\2=2)/\∀ a,ApA a [D.sl a0 0 e0 c0,D.sl a1 0 e1
 c1]->∀ b,N<=b->wU b [a]->ACalls prog 177 [.sl 0] [.sv a 0 [D.sl a0 0 e0 c0,D.sl a1 0 e1 c1] 2] b (λc d e f=>b<=f->Off [a] (D.sl c 0
 d e)/\(Bel f (D.sl c 0 d e)->yO Q N 0 0 c d e (d.length:Int) 0 [] 0 f))):ACalls prog 175 [.row 9 0] [PV.sv a0 0 e0 c0,PV.sv a1 0 e1 c1] N Q:=
  eE sA h
theorem zJg (N:Nat) (I:ByteArray) (a1:Option Addr) (e1:List D) (c1:Nat) (Q:QT [.str]) (h :
Bel N (D.sl a1 0 e1 c1)->vY Q N I a1 e1 c1 1 N):ACalls prog 192 [.str] [PV.str I,PV.sv a1 0 e1 c1] N Q:=
 eE zCO h
theorem zDA (N:Nat) (a0:Option Addr) (e0:List D) (c0:Nat) (Q:QT [.str]) (h :
Bel N (D.sl a0 0 e0 c0)->kS 192 [.str (bytes [118]),.sv a0 0 e0 c0] N (λs a=>uP a (Q s)) ):ACalls prog 176 [.str] [PV.sv a0 0 e0 c0] N Q:=
 eE H0 h
theorem zCg (N:Nat) (n0:Int) (Q:QT [.str]) (h :
kS 210 [.j n0] N (λs a=>uP a (Q s))):ACalls prog 205 [.str] [PV.int .i64 n0] N Q:=
 eE H0 h
theorem zJp (N:Nat) (I:ByteArray) (Q:QT [.ag 9]) (h :
∀ a,N<=a->Q (D.ag [D.j 1,D.t I,D.t b0,D.j 0,D.j 0,D.sl none 2 [] 0,D.j 0,D.sl none 2 [] 0,D.sl none 9 [] 0]) a):ACalls prog 178 [.ag 9] [PV.str I] N Q:=
  eE H0 h
theorem zFM (N:Nat) (x0:D) (Q:QT [.sl 0,.int .i64]) (h :
Bel N x0->∃ n:Int,(x0.cell 0)=D.j n/\Br (n==6) (∃ a b,∃ c:Nat,(x0.cell 8)=D.sl a 9 b c/\Br ((b.length:Int)==1) (∃ s,(x0.cell 1) =
 D.t s/\w2 (1=([D.t s]).length/\1=1) (∀ a b,N<=b->Fresh N b a [D.ag [D.t s]]->uP b (Q a [D.t s] 1 0))) (∃ a:Int,(x0.cell 0)=D.j a /\
 Br (a==8) (∃ a b,∃ c:Nat,(x0.cell 8)=D.sl a 9 b c/\Br ((b.length:Int)==2) (∃ a,(x0.cell 1)=D.t a/\w2 (1=([D.t
 a]).length/\1=1) (∀ b c,N<=c->Fresh N c b [D.ag [D.t a]]->uP c (Q b [D.t a] 1 1))) (∃ a:Int,(x0.cell 0)=D.j a/\Br (a==9) (∃
 a b,∃ c:Nat,(x0.cell 8)=D.sl a 9 b c/\Br ((b.length:Int)==1) (∃ a,(x0.cell 1)=D.t a/\∃ b,(x0.cell 2)=D.t b/\w2 (2 =
 ([D.t a,D.t b]).length/\2=2) (∀ c d,N<=d->Fresh N d c [D.ag [D.t a,D.t b]]->uP d (Q c [D.t a,D.t b] 2 0))) (w2 (0=0/\0=0)
 (∀ a b,N<=b->Fresh N b a [D.ag []]->uP b (Q a [] 0 (-1))))) (w2 (0=0/\0=0) (∀ a b,N<=b->Fresh N b a [D.ag []]->uP b (Q a [] 0
 (-1)))))) (∃ a:Int,(x0.cell 0)=D.j a/\Br (a==9) (∃ a b,∃ c:Nat,(x0.cell 8)=D.sl a 9 b c/\Br ((b.length:Int)==1) (∃
 a,(x0.cell 1)=D.t a/\∃ b,(x0.cell 2)=D.t b/\w2 (2=([D.t a,D.t b]).length/\2=2) (∀ c d,N<=d->Fresh N d c [D.ag [D.t a,
 D.t b]]->uP d (Q c [D.t a,D.t b] 2 0))) (w2 (0=0/\0=0) (∀ a b,N<=b->Fresh N b a [D.ag []]->uP b (Q a [] 0 (-1))))) (w2 (0
 = 0/\0=0) (∀ a b,N<=b->Fresh N b a [D.ag []]->uP b (Q a [] 0 (-1))))))) (∃ a:Int,(x0.cell 0)=D.j a/\Br (a==8) (∃ a
 b,∃ c:Nat,(x0.cell 8)=D.sl a 9 b c/\Br ((b.length:Int)==2) (∃ a,(x0.cell 1)=D.t a/\w2 (1=([D.t a]).length/\1=1) (∀
 b c,N<=c->Fresh N c b [D.ag [D.t a]]->uP c (Q b [D.t a] 1 1))) (∃ a:Int,(x0.cell 0)=D.j a/\Br (a==9) (∃ a b,∃ c
 : Nat,(x0.cell 8)=D.sl a 9 b c/\Br ((b.length:Int)==1) (∃ a,(x0.cell 1)=D.t a/\∃ b,(x0.cell 2)=D.t b/\w2 (2=([D.t a,D.t
 b]).length/\2=2) (∀ c d,N<=d->Fresh N d c [D.ag [D.t a,D.t b]]->uP d (Q c [D.t a,D.t b] 2 0))) (w2 (0=0/\0=0) (∀ a
 b,N<=b->Fresh N b a [D.ag []]->uP b (Q a [] 0 (-1))))) (w2 (0=0/\0=0) (∀ a b,N<=b->Fresh N b a [D.ag []]->uP b (Q a
 [] 0 (-1)))))) (∃ a:Int,(x0.cell 0)=D.j a/\Br (a==9) (∃ a b,∃ c:Nat,(x0.cell 8)=D.sl a 9 b c/\Br ((b.length:Int)==1)
 (∃ a,(x0.cell 1)=D.t a/\∃ b,(x0.cell 2)=D.t b/\w2 (2=([D.t a,D.t b]).length/\2=2) (∀ c d,N<=d->Fresh N d c [D.ag
 [D.t a,D.t b]]->uP d (Q c [D.t a,D.t b] 2 0))) (w2 (0=0/\0=0) (∀ a b,N<=b->Fresh N b a [D.ag []]->uP b (Q a [] 0
 (-1))))) (w2 (0=0/\0=0) (∀ a b,N<=b->Fresh N b a [D.ag []]->uP b (Q a [] 0 (-1))))))):ACalls prog 82 [.sl 0,.int .i64] [PV.dg 9 x0] N Q:=
  eE H0 h
theorem zBE (N:Nat) (a0:Option Addr) (e0:List D) (c0:Nat) (I:ByteArray) (Q:QT [.sl 0]) (h :
Bel N (D.sl a0 0 e0 c0)->yH Q N a0 e0 c0 I 0 0 0 [] 0 N):ACalls prog 83 [.sl 0] [PV.sv a0 0 e0 c0,PV.str I] N Q:=
 eE u6 h
theorem zBT (N:Nat) (a0:Option Addr) (e0:List D) (c0:Nat) (a1:Option Addr) (e1:List D) (c1:Nat) (Q:QT [.row 9 0]) (h :
Bel N (D.sl a0 0 e0 c0)->Bel N (D.sl a1 0 e1 c1)->yN Q N a0 e0 c0 a1 e1 c1 0 0 0 [] 0 N):ACalls prog 84 [.row 9 0] [PV.sv a0 0 e0 c0,PV.sv a1 0 e1 c1] N Q:=
 eE vK h
theorem zET (N:Nat) (I:D) (Q:QT [.sl 0]) (h :
Bel N I->∃ n:Int,(I.cell 0)=D.j n/\Br (n==1) (∃ s,(I.cell 1)=D.t s/\w2 (1=([D.t s]).length/\1=1) (∀ a b,N<=b->Fresh N b a [D.ag
 [D.t s]]->uP b (Q a [D.t s] 1))) (∀ a,N<=a->ACalls prog 82 [.sl 0,.i] [.dg 9 I] a (λb c d e f=>a<=f->Bel f (D.sl b 0 c d) ->
 zt Q N b c d e 0 0 0 I [] 0 f))):ACalls prog 49 [.sl 0] [PV.dg 9 I] N Q:=
  eE uX h
theorem sf (N:Nat) (n0:Int) (Q:QT [.str]) (h :
Br (n0==0) (uP N (Q (bytes [48]))) (za Q N n0 (decide (n0<0)) b0 N)):ACalls prog 194 [.str] [PV.int .i64 n0] N Q:=
 eE rG h
theorem zCY (N:Nat) (a0:Option Addr) (e0:List D) (c0:Nat) (Q:QT [.str]) (h :
Bel N (D.sl a0 0 e0 c0)->xS Q N a0 e0 c0 1 N):ACalls prog 179 [.str] [PV.sv a0 0 e0 c0] N Q:=
 eE s3 h
theorem zCL (N:Nat) (I:ByteArray) (Q:QT [.ag 9]) (h :
∀ a,N<=a->Q (D.ag [D.j 1,D.t I,D.t b0,D.j 0,D.j 0,D.sl none 2 [] 0,D.j 0,D.sl none 2 [] 0,D.sl none 9 [] 0]) a):ACalls prog 55 [.ag 9] [PV.str I] N Q:=
  eE H0 h
theorem sD (Q:QT [.row 9 0]) (N0:Nat) (n4:Int) (m5 c5:Nat) (ab:Option Addr) (J:List D) (ac:Nat) (aa I:Int) (O:Option Addr) (U:List D) (Y:Nat) (r1:List D) (q1:Nat) (N:Nat) (h :
Br (decide (I<aa)) ((0<=I/\I<(J.length:Int))/\∀ b,N<=b->ACalls prog 148 [.row 9 0] [.dg 9 (List.getD J I.toNat default)] b (fun
 c d e=>b<=e->Bel e (D.ag c)->Br (I==n4) (∀ b,e<=b->BCalls prog 173 [Sh.bk 0,.sl 0,.sl 0] [.sb 0 0 0 c.length d,.fn 174 [.pb 1 0 0 0]]
 [Bx.arr 9 0 c d,Bx.var [.sv O 0 U Y]] b (λ_ a c d e f g h=>b<=h->Bel h (D.sl a 0 c d)->Bel h (D.sl e 0 f g) ->
 (m5=r1.length/\c5=q1)/\∀ a,ApA a r1->(c.length=c.length/\d=d)/\∀ b,ApA b c->∀ i,h<=i->wU i [a,b]->ACalls
 prog 175 [.row 9 0] [.sv a 0 r1 c5,.sv b 0 c d] i (λc d h=>i<=h->Off [a,b] (D.ag c)/\(Bel h (D.ag c)->yv
 Q N0 n4 c.length d ab J ac aa (IntKind.i64.wrap (I+1)) e f g c d h)))) ((m5=r1.length/\c5=q1)/\∀ a,ApA a r1->(c.length =
 c.length/\d=d)/\∀ b,ApA b c->∀ f,e<=f->wU f [a,b]->ACalls prog 175 [.row 9 0] [.sv a 0 r1 c5,.sv b 0 c d] f (λc d e
 => f<=e->Off [a,b] (D.ag c)/\(Bel e (D.ag c)->yv Q N0 n4 c.length d ab J ac aa (IntKind.i64.wrap (I+1)) O U
 Y c d e))))) ((m5=r1.length/\c5=q1)/\uP N (Q r1 c5))):yv Q N0 n4 m5 c5 ab J ac aa I O U Y r1 q1 N:=
  hE rO h
theorem vI (Q:QT [.sl 0]) (N0:Nat) (a0:Option Addr) (e0:List D) (c0:Nat) (O:Int) (a9:Option Addr) (U:List D) (Y:Nat) (J I:Int) (N:Nat) (h :
Br (decide (I<J)) ((0<=I/\I<(U.length:Int))/\∃ a b,∃ c:Nat,List.getD U I.toNat default=D.sl a 0 b c/\Br (decide
 (IntKind.i64.wrap (O+(b.length:Int))<0)) False (yU Q N0 a0 e0 c0 (IntKind.i64.wrap (O+(b.length:Int))) a9 U Y J
 (IntKind.i64.wrap (I+1)) N)) (∀ a,N<=a->ACalls prog 193 [.row 9 0] [.sv none 0 [] 0,.j O] a (λb c d=>a<=d->Bel d (D.ag b) ->
 zf Q N0 b.length c a0 e0 c0 (e0.length:Int) 0 b c d))):yU Q N0 a0 e0 c0 O a9 U Y J I N:=
  hE xj h
theorem uO (Q:QT [.row 9 0]) (N0:Nat) (m5 U:Nat) (Y:Option Addr) (J:List D) (aa:Nat) (O I:Int) (r0:List D) (q0:Nat) (N:Nat) (h :
Br (decide (I<O)) ((0<=I/\I<(J.length:Int))/\∃ s,List.getD J I.toNat default=D.t s/\(m5=r0.length/\U=q0)/\∀ a,ApA a r0 ->
 ∀ d,N<=d->wU d [a]->ACalls prog 147 [.bool] [.sv a 0 r0 U,.str s] d (λb a=>d<=a->Br (!b) ((m5=r0.length/\U=q0)/\zB r0 [D.t s]
 16/\∀ (c:Nat),yO Q N0 (r0++[D.t s]).length c Y J aa O (IntKind.i64.wrap (I+1)) (r0++[D.t s]) c a) (yO Q N0
 m5 U Y J aa O (IntKind.i64.wrap (I+1)) r0 q0 a))) ((m5=r0.length/\U=q0)/\uP N (Q r0 U))):yO Q N0 m5 U Y J aa O I r0 q0 N:=
  hE sA h
theorem zFI (Q:QT [.str]) (N0:Nat) (s0:ByteArray) (a1:Option Addr) (e1:List D) (c1:Nat) (n5:Int) (N:Nat) (h :
kS 205 [.j n5] N (fun s a=>(s0.size+s.size:Nat)<=9223372036854775807/\kB 147 [.sv a1 0 e1 c1,.str (s0++s)] a (fun b a=>Br (!b) (uP a (Q
 (s0++s))) (vY Q N0 s0 a1 e1 c1 (IntKind.i64.wrap (n5+1)) a)))):vY Q N0 s0 a1 e1 c1 n5 N:=
  hE zCO h
theorem v8 (Q:QT [.sl 0]) (N0:Nat) (a0:Option Addr) (e0:List D) (c0:Nat) (O:ByteArray) (U Y:Nat) (I:Int) (r0:List D) (J:Nat) (N:Nat) (h :
Br (decide (I<(e0.length:Int))) ((0<=I/\I<(e0.length:Int))/\∃ s,List.getD e0 I.toNat default=D.t s/\Br (!(ByteArray.toList s ==
 ByteArray.toList O)) ((0<=I/\I<(e0.length:Int))/\∃ a,List.getD e0 I.toNat default=D.t a/\(U=r0.length/\Y=J)/\zB r0 [D.t a] 16
 /\ ∀ (c:Nat),yH Q N0 a0 e0 c0 O (r0++[D.t a]).length c (IntKind.i64.wrap (I+1)) (r0++[D.t a]) c N) (yH Q N0 a0
 e0 c0 O U Y (IntKind.i64.wrap (I+1)) r0 J N)) (w3 (U=r0.length/\Y=J) (∀ a b,N<=b->Fresh N0 b a [D.ag r0]->uP b (Q a r0 J)))):yH Q N0 a0 e0 c0 O U Y I r0 J N:=
  hE u6 h
theorem uN (Q:QT [.row 9 0]) (N0:Nat) (a0:Option Addr) (e0:List D) (c0:Nat) (a1:Option Addr) (e1:List D) (c1 O J:Nat) (I:Int) (r0:List D) (U:Nat) (N:Nat) (h :
Br (decide (I<(e0.length:Int))) ((0<=I/\I<(e0.length:Int))/\∃ s,List.getD e0 I.toNat default=D.t s/\(O=r0.length/\J=U)/\∀ a,
 ApA a r0->∀ b,N<=b->wU b [a]->ACalls prog 123 [.i] [.sv a 0 r0 J,.str s] b (λn a=>b<=a->Br (decide (n<0)) ((0<=I/\I<(e0.length :
 Int))/\∃ b,List.getD e0 I.toNat default=D.t b/\(O=r0.length/\J=U)/\zB r0 [D.t b] 16/\∀ (c:Nat),yN Q N0 a0 e0 c0
 a1 e1 c1 (r0++[D.t b]).length c (IntKind.i64.wrap (I+1)) (r0++[D.t b]) c a) (yN Q N0 a0 e0 c0 a1 e1 c1 O J (IntKind.i64.wrap (I
 + 1)) r0 U a))) (zq Q N0 a1 e1 c1 O J 0 r0 U N)):yN Q N0 a0 e0 c0 a1 e1 c1 O J I r0 U N:=
  hE vK h
theorem tu (Q:QT [.sl 0]) (N0:Nat) (a3:Option Addr) (e3:List D) (c3:Nat) (n4:Int) (U Y:Nat) (I:Int) (J:D) (r1:List D) (O:Nat) (N:Nat) (h :
∃ a b,∃ c:Nat,(J.cell 8)=D.sl a 9 b c/\Br (decide (I<(b.length:Int))) (∃ a b,∃ c:Nat,(J.cell 8)=D.sl a 9 b c/\(0<=I
 /\ I<(b.length:Int))/\kL 0 49 [.dg 9 (List.getD b I.toNat default)] N (λa b c d=>yc Q N0 a3 e3 c3 n4 U Y I a b
 c 0 J r1 O d)) (w3 (U=r1.length/\Y=O) (∀ a b,N<=b->Fresh N0 b a [D.ag r1]->uP b (Q a r1 O)))):zt Q N0 a3 e3 c3 n4 U Y I J r1 O N:=
  hE uX h
theorem w8 (Q:QT [.str]) (N0:Nat) (n0:Int) (J:Bool) (I:ByteArray) (N:Nat) (h :
Br (bne n0 0) ((10:Int)≠(0:Int)/\Br (decide (Int.tmod n0 10<0)) (1<=([D.lit (.int IntKind.u8 (IntKind.u8.wrap (IntKind.i64.wrap (48 +
 IntKind.i64.wrap (0 - Int.tmod n0 10)))))]).length/\∃ a:List Int,List.take 1 [D.lit (.int IntKind.u8 (IntKind.u8.wrap (IntKind.i64.wrap (48 +
 IntKind.i64.wrap (0 - Int.tmod n0 10)))))]=List.map (λn=>D.lit (.int IntKind.u8 n)) a/\(ByteArray.size (bytesOf a)+I.size:Nat) <=
 9223372036854775807/\(10:Int)≠(0:Int)/\za Q N0 (IntKind.i64.wrap (Int.tdiv n0 10)) J (bytesOf a++I) N) (1<=([D.lit (.int
 IntKind.u8 (IntKind.u8.wrap (IntKind.i64.wrap (48+Int.tmod n0 10))))]).length/\∃ a:List Int,List.take 1 [D.lit (.int IntKind.u8 (IntKind.u8.wrap
 (IntKind.i64.wrap (48+Int.tmod n0 10))))]=List.map (λa=>D.lit (.int IntKind.u8 a)) a/\(ByteArray.size (bytesOf a)+I.size:Nat) <=
 9223372036854775807/\(10:Int)≠(0:Int)/\za Q N0 (IntKind.i64.wrap (Int.tdiv n0 10)) J (bytesOf a++I) N)) (Br J ((1+I.size :
 Nat)<=9223372036854775807/\uP N (Q (bytes [45]++I))) (uP N (Q I)))):za Q N0 n0 J I N:=
  hE rG h
theorem pz (Q:QT [.str]) (N0:Nat) (a0:Option Addr) (e0:List D) (c0:Nat) (n3:Int) (N:Nat) (h :
kS 194 [.j n3] N (fun s a=>(1+s.size:Nat)<=9223372036854775807/\∀ b,a<=b->ACalls prog 123 [.i] [.sv a0 0 e0 c0,.str (bytes [118]++s)] b
 (fun n a=>b<=a->Br (decide (n<0)) (uP a (Q (bytes [118]++s))) (xS Q N0 a0 e0 c0 (IntKind.i64.wrap (n3+1)) a)))):xS Q N0 a0 e0 c0 n3 N:=
  hE s3 h
theorem um (N:Nat) (m0 c0:Nat) (U:List D) (Y:Nat) (I:Option Addr) (J:List D) (O:Nat) (Q:QT [(Sh.bk 0),(Sh.sl 0),(Sh.sl 0)]) (h:∀ E:Env,
Bel N (D.sl none 0 U Y)->Bel N (D.sl I 0 J O)->(m0=U.length/\c0=Y)/\∀ a,ApA a U->∀ b,ApA (Option.some b)
 [D.sl I 0 J O]->∀ c,N<=c->wU c [a,Option.some b]->ACalls prog 191 [.i] [.sv a 0 U c0,.fn 174 [.pd b 0 (D.sl I 0 J O)]]
 c (λn a=>c<=a->Br (n==(-1)) (zT E [.arr 9 0 [] 0,.var [.sv none 0 [] 0]]/\(m0=U.length/\c0=Y)/\uP a (Q (D.j 0) none U Y I
 J O)) (zR E Q N m0 c0 n (IntKind.i64.wrap (n+1)) U Y I J O a))):BCalls prog 173 [(Sh.bk 0),(Sh.sl 0),(Sh.sl 0)] [.sb 0 0 0 m0 c0,.fn 174 [.pb 1 0 0 0]] [.arr 9 0 U Y,.var [.sv I 0 J O]] N Q:=
  bE wN h
theorem wg (Q:QT [.sl 0]) (N0:Nat) (m6 c6:Nat) (a25:Option Addr) (e25:List D) (c25:Nat) (n26 n27:Int) (r0:List D) (q0:Nat) (N:Nat) (h :
Br (decide (n27<n26)) ((0<=n27/\n27<(e25.length:Int))/\∃ a b,∃ c:Nat,List.getD e25 n27.toNat default=D.sl a 0 b c/\(m6=r0.length/\c6 =
 q0)/\zB r0 b 16/\∀ (a:Nat),zf Q N0 (r0++b).length a a25 e25 c25 n26 (IntKind.i64.wrap (n27+1)) (r0++b) a N) (w3
 (m6=r0.length/\c6=q0) (∀ a b,N<=b->Fresh N0 b a [D.ag r0]->uP b (Q a r0 q0)))):zf Q N0 m6 c6 a25 e25 c25 n26 n27 r0 q0 N:=
  hE xj h
theorem uq (Q:QT [.row 9 0]) (N0:Nat) (a1:Option Addr) (e1:List D) (c1 m5 c5:Nat) (n7:Int) (r0:List D) (q0:Nat) (N:Nat) (h :
Br (decide (n7<(e1.length:Int))) ((0<=n7/\n7<(e1.length:Int))/\∃ s,List.getD e1 n7.toNat default=D.t s/\(m5=r0.length/\c5=q0)/\∀ a,
 ApA a r0->∀ b,N<=b->wU b [a]->ACalls prog 123 [.i] [.sv a 0 r0 c5,.str s] b (fun n a=>b<=a->Br (decide (n<0)) ((0<=n7/\n7<(e1.length :
 Int))/\∃ b,List.getD e1 n7.toNat default=D.t b/\(m5=r0.length/\c5=q0)/\zB r0 [D.t b] 16/\∀ (c:Nat),zq Q N0 a1 e1 c1
 (r0++[D.t b]).length c (IntKind.i64.wrap (n7+1)) (r0++[D.t b]) c a) (zq Q N0 a1 e1 c1 m5 c5 (IntKind.i64.wrap (n7+1)) r0 q0 a)))
 ((m5=r0.length/\c5=q0)/\uP N (Q r0 c5))):zq Q N0 a1 e1 c1 m5 c5 n7 r0 q0 N:=
  hE vK h
theorem tA (Q:QT [.sl 0]) (N0:Nat) (a3:Option Addr) (e3:List D) (c3:Nat) (n4:Int) (m5 c5:Nat) (n6:Int) (a7:Option Addr) (e7:List D) (c7:Nat) (n8:Int) (y0:D) (r1:List D) (q1:Nat) (N:Nat) (h :
Br (decide (n8<(e3.length:Int))) (Br (n6==n4) ((0<=n8/\n8<(e3.length:Int))/\∃ s,List.getD e3 n8.toNat default=D.t s/\kL 0 83 [.sv a7 0 e7
 c7,.str s] N (fun a b c d=>yc Q N0 a3 e3 c3 n4 m5 c5 n6 a b c (IntKind.i64.wrap (n8+1)) y0 r1 q1 d)) ((m5=r1.length/\c5=q1)/\∀
 a,ApA a r1->Off [a] (D.sl a7 0 e7 c7)->∀ b,N<=b->wU b [a]->ACalls prog 84 [.row 9 0] [.sv a 0 r1 c5,.sv a7 0 e7 c7] b (fun c d e
 => b<=e->Off [a] (D.ag c)/\(Bel e (D.ag c)->zt Q N0 a3 e3 c3 n4 c.length d (IntKind.i64.wrap (n6+1)) y0 c d e))))
 ((m5=r1.length/\c5=q1)/\∀ a,ApA a r1->Off [a] (D.sl a7 0 e7 c7)->∀ b,N<=b->wU b [a]->ACalls prog 84 [.row 9 0] [.sv a 0 r1 c5,.sv
 a7 0 e7 c7] b (fun c d e=>b<=e->Off [a] (D.ag c)/\(Bel e (D.ag c)->zt Q N0 a3 e3 c3 n4 c.length d (IntKind.i64.wrap
 (n6+1)) y0 c d e)))):yc Q N0 a3 e3 c3 n4 m5 c5 n6 a7 e7 c7 n8 y0 r1 q1 N:=
  hE uX h
theorem uu (N:Nat) (a0:Option Addr) (e0:List D) (c0:Nat) (J:Addr) (I:D) (Q:QT [.int .i64]) (h :
Bel N (D.sl a0 0 e0 c0)->zu Q N a0 e0 c0 J I (e0.length:Int) 0 N):ACalls prog 191 [.int .i64] [.sv a0 0 e0 c0,.fn 174 [.pd J 0 I]] N Q:=
 eE wb h
theorem xg (E:Env) (Q:QT [(Sh.bk 0),(Sh.sl 0),(Sh.sl 0)]) (N0:Nat) (m0 c0:Nat) (n5 n6:Int) (r0:List D) (q0:Nat) (a1_0:Option Addr) (e1_0:List D) (c1_0:Nat) (N:Nat) (h :
Br (decide (n6<(m0:Int))) ((0<=n6/\n6<(m0:Int)/\(0+n6.toNat:Nat)<r0.length)/\(0+n6.toNat:Nat)<r0.length/\∃ s,List.getD r0 (0 +
 n6.toNat:Nat) default=D.t s/\∀ a,ApA (Option.some a) [D.sl a1_0 0 e1_0 c1_0]->∀ c,N<=c->wU c [Option.some a]->ACalls prog 174 [.bool] [.str
 s,.pd a 0 (D.sl a1_0 0 e1_0 c1_0)] c (fun b a=>c<=a->Br (!b) ((0<=n5/\n5<(m0:Int)/\(0+n5.toNat:Nat)<r0.length)/\(0+n5.toNat:Nat) <
 r0.length/\zR E Q N0 m0 c0 (IntKind.i64.wrap (n5+1)) (IntKind.i64.wrap (n6+1)) (List.set r0 (0+n5.toNat:Nat) (D.t s)) q0 a1_0
 e1_0 c1_0 a) (zR E Q N0 m0 c0 n5 (IntKind.i64.wrap (n6+1)) r0 q0 a1_0 e1_0 c1_0 a))) ((0<=n5/\n5<=(m0:Int)/\(m0:Int)<=(c0 :
 Int)/\n5<(c0))/\((0+n5.toNat:Nat)+(((m0:Int)).toNat - n5.toNat:Nat):Nat)<=r0.length/\(0<=n5/\n5<=(c0:Int))/\n5.toNat<=(List.take (0 +
 n5.toNat:Nat) r0++(List.replicate (((m0:Int)).toNat - n5.toNat:Nat) (D.t b0)++List.drop ((0+n5.toNat:Nat)+(((m0:Int)).toNat - n5.toNat:Nat)
 : Nat) r0)).length/\zT E [.arr 9 0 [] 0,.var [.sv none 0 [] 0]]/\(n5.toNat=(List.take n5.toNat (List.take (0+n5.toNat:Nat) r0++(List.replicate
 (((m0:Int)).toNat - n5.toNat:Nat) (D.t b0)++List.drop ((0+n5.toNat:Nat)+(((m0:Int)).toNat - n5.toNat:Nat):Nat) r0))).length/\c0=q0)/\∀ a,
 N<=a->Q (D.j 0) none (List.take n5.toNat (List.take (0+n5.toNat:Nat) r0++(List.replicate (((m0:Int)).toNat - n5.toNat:Nat) (D.t b0)++List.drop
 ((0+n5.toNat:Nat)+(((m0:Int)).toNat - n5.toNat:Nat):Nat) r0))) q0 a1_0 e1_0 c1_0 a)):zR E Q N0 m0 c0 n5 n6 r0 q0 a1_0 e1_0 c1_0 N:=
  hE wN h
theorem xt (Q:QT [.int .i64]) (N0:Nat) (a0:Option Addr) (e0:List D) (c0:Nat) (J:Addr) (I:D) (U O:Int) (N:Nat) (h :
Br (decide (O<U)) ((0<=O/\O<(e0.length:Int))/\∃ s,List.getD e0 O.toNat default=D.t s/\kB 174 [.str s,.pd J 0 I] N (λb a=>Br
 b (uP a (Q O)) (zu Q N0 a0 e0 c0 J I U (IntKind.i64.wrap (O+1)) a))) (uP N (Q (-1)))):zu Q N0 a0 e0 c0 J I U O N:=
  hE wb h
theorem qj (N:Nat) (J:ByteArray) (a1:Addr) (I:D) (Q:QT [.bool]) (h :
∃ a d,∃ c:Nat,I=D.sl a 0 d c/\kB 147 [.sv a 0 d c,.str J] N (λb a=>uP a (Q b)) ):ACalls prog 174 [.bool] [.str J,.pd a1 0 I] N Q:=
  eE H0 h
end Go.Proofs.YtfajiphkncipoaaGreatDoor
