/- Printed by gen.py: what the functions come to. -/
import Derived.Test.YtlahkdflngobiaaGreatJh
set_option linter.unusedVariables false
set_option maxRecDepth 100000
namespace Go.Proofs.YtlahkdflngobiaaGreat
open Go Go.Proofs Go.Proofs.Tryz
def zBa:Hint:=⟨[hc 3 [1,2,3,4] [] [(3,8,30,9)]],[],[(1,[en 0,en 1,en 2,en 3,en 4,en 5,en 6,en 7,en 8,en 9,en 11,en 12,en 15,{ i:=10,hard:=true,cl:=[14],fs:=[3,14] },{ i:=13,hard:=true,cl:=[17],fs:=[3,17] },en 14,eh 16]),(5,[en 0,en 1,en 2,en 3,en 4,en 5,en 6,{ i:=7,hard:=true,cl:=[33],fs:=[3,33] },{ i:=8,hard:=true,cl:=[34],fs:=[3,34] },eh 9,en 10,eh 11])]⟩
def zAu:Hint:=⟨[hc 3 [1,4,5,6] [] [(5,8,30,9)]],[],[(5,[en 0,en 1,en 2,en 3,en 4,en 5,{ i:=6,hard:=true,cl:=[20],fs:=[5,20] },{ i:=7,hard:=true,cl:=[21],fs:=[5,21] },eh 8,en 9,eh 10])]⟩
def zDO:Hint:=⟨[],[],[(1,[en 0,en 1,en 2,en 3,en 4,en 5,en 6,en 7,en 8,en 9,en 11,en 12,en 14,ec 10 [14],ec 13 [17],en 15,eh 16])]⟩
def tH:Hint:=⟨[hc 3 [1,2,4,5,10,11,12] [(5,30,9)]],[],[(5,hs 7 [ec 3 [18]]),(7,hs 4 [ec 2 [23,24]])]⟩
def zDq:Hint:=⟨[],[],[(1,hs 3 [ec 1 [3]])]⟩
def xp (Q:QT [.pk,.int .i64,.str,.str,.int .i64,.dc,.dc,.dc,.dc,.row 30 9]) (N0:Nat) (n4:Int) (y0:D) (I:Int) (J O:ByteArray) (U Y:Int) (aa:Option Addr) (ab:List D) (ac:Nat) (ae:Int) (ah:Option Addr) (ai:List D) (aj:Nat) (ak:Option Addr) (al:List D) (am:Nat) (ao:Int) (aq au:ByteArray) (aw:Int) (ax ay az a0:D) (a2 a3:Nat) (r3:List D) (q3:Nat) (N:Nat):Prop:=AT prog 50 [.pk,.int .i64,.str,.str,.int .i64,.dc,.dc,.dc,.dc,.row 30 9] Q N0 .ord (zE prog 50 3) ⟨an 1 (.pb 0 0 0 0::.pb 1 0 0 0::.pb 2 0 0 0::.int .i64 n4::an 34 []),[.vd y0 9,.var [.int .i64 I,.str J,.str O,.int .i64 U,.int .i64 Y,.sv aa 2 ab ac,.int .i64 ae,.sv ah 2 ai aj,.sv ak 9 al am],.var [.int .i64 ao,.str aq,.str au,.int .i64 aw,.dc ax,.dc ay,.dc az,.dc a0,.sb 3 9 0 a2 a3],.arr 30 9 r3 q3],N,none⟩
def wn (Q:QT [.ag 9]) (N0:Nat) (a1:Option Addr) (e1:List D) (c1:Nat) (n6 I:Int) (J O:ByteArray) (U Y:Int) (aa:Option Addr) (ab:List D) (ac:Nat) (ae:Int) (ah:Option Addr) (ai:List D) (aj:Nat) (ak:Option Addr) (al:List D) (am:Nat) (ao:Int) (aq au:ByteArray) (aw ax:Int) (ay:Option Addr) (az:List D) (a0:Nat) (a2:Int) (a3:Option Addr) (a4:List D) (a5 a6 a7:Nat) (r2:List D) (q2:Nat) (N:Nat):Prop:=AT prog 45 [.ag 9] Q N0 .ord (zE prog 45 3) ⟨an 1 (.sv a1 9 e1 c1::an 2 (.pb 0 0 0 0::.pb 1 0 0 0::.int .i64 n6::an 19 [])),[.var [.int .i64 I,.str J,.str O,.int .i64 U,.int .i64 Y,.sv aa 2 ab ac,.int .i64 ae,.sv ah 2 ai aj,.sv ak 9 al am],.var [.int .i64 ao,.str aq,.str au,.int .i64 aw,.int .i64 ax,.sv ay 2 az a0,.int .i64 a2,.sv a3 2 a4 a5,.sb 2 9 0 a6 a7],.arr 30 9 r2 q2],N,none⟩
def yp (Q:QT [.ag 9]) (N0:Nat) (m5 c5:Nat) (ao:Option Addr) (aq:List D) (au:Nat) (aw ax:Int) (y0:D) (I:Int) (J O:ByteArray) (U Y:Int) (aa:Option Addr) (ab:List D) (ac:Nat) (ae:Int) (ah:Option Addr) (ai:List D) (aj:Nat) (ak:Option Addr) (al:List D) (am:Nat) (r2:List D) (q2:Nat) (N:Nat):Prop:=AT prog 96 [.ag 9] Q N0 .ord (zE prog 96 3) ⟨an 1 (.fn 47 []::.pb 0 0 0 0::an 1 (.pb 1 0 0 0::.sb 2 9 0 m5 c5::an 4 (.sv ao 9 aq au::.int .i64 aw::.int .i64 ax::an 13 []))),[.vd y0 9,.var [.int .i64 I,.str J,.str O,.int .i64 U,.int .i64 Y,.sv aa 2 ab ac,.int .i64 ae,.sv ah 2 ai aj,.sv ak 9 al am],.arr 30 9 r2 q2],N,none⟩
theorem zA0 (N:Nat) (x0:D) (Q:QT [.pk,.int .i64,.str,.str,.int .i64,.dc,.dc,.dc,.dc,.row 30 9]) (h :
Bel N x0->∃ n:Int,(x0.cell 0)=D.j n/\∃ s,(x0.cell 1)=D.t s/\∃ a,(x0.cell 2)=D.t a/\∃ b:Int,(x0.cell 3)=D.j b/\kA 2 54 [.dg 2
 (D.sub x0 4 2)] N (fun x c=>kA 2 54 [.dg 2 (D.sub x0 6 2)] c (fun c d=>xp Q N 0 x0 0 b0 b0 0 0 none [] 0 0 none [] 0 none [] 0 n s a b
 (x.cell 0) (x.cell 1) (c.cell 0) (c.cell 1) 0 0 [] 0 d))):ACalls prog 50 [.pk,.int .i64,.str,.str,.int .i64,.dc,.dc,.dc,.dc,.row 30 9] [PV.dg 9 x0] N Q:=
  eE zBa h
theorem zIK (N:Nat) (n0:Int) (a1:Option Addr) (e1:List D) (c1:Nat) (Q:QT [.ag 9]) (h :
Bel N (D.sl a1 9 e1 c1)->wn Q N a1 e1 c1 0 0 b0 b0 0 0 none [] 0 0 none [] 0 none [] 0 n0 b0 b0 0 0 none [] 0 0 none [] 0 0 0 [] 0 N):ACalls prog 45 [.ag 9] [PV.int .i64 n0,PV.sv a1 9 e1 c1] N Q:=
 eE zAu h
theorem zJS (N:Nat) (s0:ByteArray) (x1 x2:D) (Q:QT [.ag 9]) (h :
Bel N x1->Bel N x2->(2=([x1,x2]).length/\2=2)/\∀ a,ApA a [x1,x2]->∀ b,N<=b->vI b [a]->ACalls prog 45 [.ag 9] [.j 8,.sv a 9 [x1,x2]
 2] b (fun x c=>b<=c->Off [a] x/\(Bel c x->uP c (Q (D.ag [(x.cell 0),D.t s0,(x.cell 2),(x.cell 3),(x.cell 4),(x.cell 5),(x.cell 6),(x.cell 7),
 (x.cell 8)]))))):ACalls prog 111 [.ag 9] [PV.str s0,PV.dg 9 x1,PV.dg 9 x2] N Q:=
  eE H0 h
theorem zDL (N:Nat) (I:D) (a1:Option Addr) (e1:List D) (c1:Nat) (Q:QT [.ag 9]) (h :
Bel N I->Bel N (D.sl a1 9 e1 c1)->∃ n:Int,(I.cell 0)=D.j n/\∃ s,(I.cell 1)=D.t s/\∃ a,(I.cell 2)=D.t a/\∃ b:Int,(I.cell 3) =
 D.j b/\kA 2 53 [.dg 2 (D.sub I 4 2)] N (λx c=>kA 2 53 [.dg 2 (D.sub I 6 2)] c (λc d=>uP d (Q (D.ag [D.j n,D.t s,D.t a,D.j b,(x.cell
 0),(x.cell 1),(c.cell 0),(c.cell 1),D.sl a1 9 e1 c1]))))):ACalls prog 144 [.ag 9] [PV.dg 9 I,PV.sv a1 9 e1 c1] N Q:=
  eE zDO h
theorem zED (N:Nat) (I:D) (Q:QT [.ag 9]) (h :
Bel N I->kA 9 96 [.dg 9 I,.fn 47 []] N (λx a=>uP a (Q x))):ACalls prog 47 [.ag 9] [PV.dg 9 I] N Q:=
 eE zDq h
theorem zHQ (N:Nat) (n0:Int) (a1:Option Addr) (e1:List D) (c1:Nat) (Q:QT [.ag 9]) (h :
Bel N (D.sl a1 9 e1 c1)->∀ a,N<=a->Q (D.ag [D.j n0,D.t b0,D.t b0,D.j 0,D.j 0,D.sl none 2 [] 0,D.j 0,D.sl none 2 [] 0,D.sl a1 9 e1 c1]) a):ACalls prog 79 [.ag 9] [PV.int .i64 n0,PV.sv a1 9 e1 c1] N Q:=
 eE H0 h
theorem ww (Q:QT [.pk,.int .i64,.str,.str,.int .i64,.dc,.dc,.dc,.dc,.row 30 9]) (N0:Nat) (n4:Int) (y0:D) (ai:Int) (aj ak:ByteArray) (al am:Int) (ao:Option Addr) (aq:List D) (au:Nat) (aw:Int) (ax:Option Addr) (ay:List D) (az:Nat) (a0:Option Addr) (a2:List D) (a3:Nat) (aa:Int) (ab ac:ByteArray) (ae:Int) (I J O U:D) (ah Y:Nat) (r3:List D) (q3:Nat) (N:Nat) (h :
∃ a b,∃ c:Nat,(y0.cell 8)=D.sl a 9 b c/\Br (decide (n4<(b.length:Int))) (∃ a b,∃ c:Nat,(y0.cell 8)=D.sl a 9 b c/\(0<=n4
 /\ n4<(b.length:Int))/\∀ a,N<=a->ACalls prog 50 [.pk,.i,.str,.str,.i,.dc,.dc,.dc,.dc,.row 30 9] [.dg 9 (List.getD b n4.toNat default)]
 a (λn s b c x d e f g h i=>a<=i->Bel i (D.ag g)->(g.length=g.length/\h=h)/\∀ a j,i<=j->Fresh N0 j a
 [D.ag g,x,d,e,f,I,J,O,U,D.ag r3]->(ah=r3.length/\Y=q3)/\zA r3 [D.ag [D.j n,D.t s,D.t b,D.j c,x,d,e,
 f,D.sl a 9 g h]] 136/\∀ (i:Nat),xp Q N0 (IntKind.i64.wrap (n4+1)) y0 ai aj ak al am ao aq au aw ax ay az
 a0 a2 a3 aa ab ac ae I J O U (r3++[D.ag [D.j n,D.t s,D.t b,D.j c,x,d,e,f,D.sl a 9 g h]]).length i (r3 ++
 [D.ag [D.j n,D.t s,D.t b,D.j c,x,d,e,f,D.sl a 9 g h]]) i j)) ((ah=r3.length/\Y=q3)/\uP N (Q aa ab ac ae I J
 O U r3 Y))):xp Q N0 n4 y0 ai aj ak al am ao aq au aw ax ay az a0 a2 a3 aa ab ac ae I J O U ah Y r3 q3 N:=
  hE zBa h
theorem rV (Q:QT [.ag 9]) (N0:Nat) (a1:Option Addr) (e1:List D) (c1:Nat) (n6 am:Int) (ao aq:ByteArray) (au aw:Int) (ax:Option Addr) (ay:List D) (az:Nat) (a0:Int) (a2:Option Addr) (a3:List D) (a4:Nat) (a5:Option Addr) (a6:List D) (a7:Nat) (ab:Int) (ac ae:ByteArray) (ah ai:Int) (I:Option Addr) (J:List D) (O:Nat) (aj:Int) (U:Option Addr) (Y:List D) (aa ak al:Nat) (r2:List D) (q2:Nat) (N:Nat) (h :
Br (decide (n6<(e1.length:Int))) ((0<=n6/\n6<(e1.length:Int))/\∀ b,N<=b->ACalls prog 50 [.pk,.i,.str,.str,.i,.dc,.dc,.dc,.dc,.row
 30 9] [.dg 9 (List.getD e1 n6.toNat default)] b (λn s c d x e f g h i j=>b<=j->Bel j (D.ag h)->(h.length=h.length/\i=i)/\∀ a
 b,j<=b->Fresh N0 b a [D.ag h,x,e,f,g,D.sl I 2 J O,D.sl U 2 Y aa,D.ag r2]->(ak=r2.length/\al=q2)/\zA r2
 [D.ag [D.j n,D.t s,D.t c,D.j d,x,e,f,g,D.sl a 9 h i]] 136/\∀ (j:Nat),wn Q N0 a1 e1 c1 (IntKind.i64.wrap (n6+1)) am
 ao aq au aw ax ay az a0 a2 a3 a4 a5 a6 a7 ab ac ae ah ai I J O aj U Y aa (r2++[D.ag [D.j n,D.t s,
 D.t c,D.j d,x,e,f,g,D.sl a 9 h i]]).length j (r2++[D.ag [D.j n,D.t s,D.t c,D.j d,x,e,f,g,D.sl a 9 h i]]) j b)) (w3
 (ak=r2.length/\al=q2) (∀ a b,N<=b->Fresh N0 b a [D.ag r2,D.sl I 2 J O,D.sl U 2 Y aa]->uP b (Q (D.ag [D.j ab,D.t ac,
 D.t ae,D.j ah,D.j ai,D.sl I 2 J O,D.j aj,D.sl U 2 Y aa,D.sl a 9 r2 q2]))))):wn Q N0 a1 e1 c1 n6 am ao aq au aw ax ay az a0 a2 a3 a4 a5 a6 a7 ab ac ae ah ai I J O aj U Y aa ak al r2 q2 N:=
  hE zAu h
theorem rZ (N:Nat) (I:D) (Q:QT [.ag 9]) (h :
Bel N I->∃ a b,∃ c:Nat,(I.cell 8)=D.sl a 9 b c/\yp Q N 0 0 a b c (b.length:Int) 0 I 0 b0 b0 0 0 none [] 0 0 none [] 0
 none [] 0 [] 0 N):ACalls prog 96 [.ag 9] [.dg 9 I,.fn 47 []] N Q:=
  eE tH h
theorem vw (Q:QT [.ag 9]) (N0:Nat) (m5 c5:Nat) (aw:Option Addr) (J:List D) (ax:Nat) (au I:Int) (y0:D) (O:Int) (U Y:ByteArray) (aa ab:Int) (ac:Option Addr) (ae:List D) (ah:Nat) (ai:Int) (aj:Option Addr) (ak:List D) (al:Nat) (am:Option Addr) (ao:List D) (aq:Nat) (r2:List D) (q2:Nat) (N:Nat) (h :
Br (decide (I<au)) ((0<=I/\I<(J.length:Int))/\kA 9 47 [.dg 9 (List.getD J I.toNat default)] N (λx a=>(m5=r2.length/\c5=q2)
 /\ zA r2 [x] 136/\∀ (c:Nat),yp Q N0 (r2++[x]).length c aw J ax au (IntKind.i64.wrap (I+1)) y0 O U Y aa ab ac
 ae ah ai aj ak al am ao aq (r2++[x]) c a)) (w2 (m5=r2.length/\c5=q2) (∀ a b,N<=b->Fresh N0 b a [D.ag r2]->kA 9 144 [.dg 9 y0,
 .sv a 9 r2 q2] b (λa b=>uP b (Q a))))):yp Q N0 m5 c5 aw J ax au I y0 O U Y aa ab ac ae ah ai aj ak al am ao aq r2 q2 N:=
  hE tH h
end Go.Proofs.YtlahkdflngobiaaGreat
set_option maxRecDepth 100000
namespace Go.Proofs.YtlahkdflngobiaaGreat
open Go Go.Proofs Go.Proofs.Tryz
def tG:Hint:=⟨[hc 3 [0,1,5,6] [(5,9,0)]],[],[]⟩
def vM:Hint:=⟨[hc 3 [0,1,5,6] [(5,9,0)],hc 8 [1,5,7] [(5,9,0)]],[],[]⟩
def ub:Hint:=⟨[hc 6 [1,3,4,5,6],hc 10 [1,3,4,5,6,7,8]],[],[(8,hs 7 [ec 5 [32]])]⟩
def rF:Hint:=⟨[hc 5 [0,3,4]],[],[]⟩
def sy:Hint:=⟨[hc 3 [0,3]],[],[]⟩
def yM (Q:QT [.sl 0]) (N0:Nat) (I:Option Addr) (e0:List D) (J:Nat) (O:ByteArray) (U Y:Nat) (n6:Int) (r0:List D) (q0:Nat) (N:Nat):Prop:=AT prog 183 [.sl 0] Q N0 .ord (zE prog 183 3) ⟨.sv I 0 e0 J::.str O::an 3 (.sb 0 0 0 U Y::.int .i64 n6::an 21 []),[.arr 9 0 r0 q0],N,none⟩
def yT (Q:QT [.row 9 0]) (N0:Nat) (I:Option Addr) (e0:List D) (J:Nat) (a1:Option Addr) (e1:List D) (c1 O U:Nat) (Y:Int) (r0:List D) (q0:Nat) (N:Nat):Prop:=AT prog 184 [.row 9 0] Q N0 .ord (zE prog 184 3) ⟨.sv I 0 e0 J::.sv a1 0 e1 c1::an 3 (.sb 0 0 0 O U::.int .i64 Y::an 43 []),[.arr 9 0 r0 q0],N,none⟩
def zx (Q:QT [.sl 0]) (N0:Nat) (I:Option Addr) (J:List D) (O:Nat) (U:Int) (Y c5:Nat) (n6:Int) (y0:D) (r1:List D) (q1:Nat) (N:Nat):Prop:=AT prog 173 [.sl 0] Q N0 .ord (zE prog 173 6) ⟨an 1 (.pb 0 0 0 0::an 1 (.sv I 0 J O::.int .i64 U::.sb 1 0 0 Y c5::.int .i64 n6::an 48 [])),[.vd y0 9,.arr 9 0 r1 q1],N,none⟩
def yd (Q:QT [.str]) (N0:Nat) (n0:Int) (b3:Bool) (I:ByteArray) (N:Nat):Prop:=AT prog 187 [.str] Q N0 .ord (zE prog 187 5) ⟨.int .i64 n0::an 2 (.bool b3::.str I::an 26 []),[],N,none⟩
def xh (Q:QT [.str]) (N0:Nat) (I:Option Addr) (e0:List D) (J:Nat) (O:Int) (N:Nat):Prop:=AT prog 185 [.str] Q N0 .ord (zE prog 185 3) ⟨.sv I 0 e0 J::an 2 (.int .i64 O::an 11 []),[],N,none⟩
def zu (Q:QT [.row 9 0]) (N0:Nat) (a1:Option Addr) (e1:List D) (c1 I J:Nat) (O:Int) (r0:List D) (U:Nat) (N:Nat):Prop:=AT prog 184 [.row 9 0] Q N0 .ord (zE prog 184 8) ⟨an 1 (.sv a1 0 e1 c1::an 3 (.sb 0 0 0 I J::an 1 (.int .i64 O::an 42 []))),[.arr 9 0 r0 U],N,none⟩
def yc (Q:QT [.sl 0]) (N0:Nat) (I:Option Addr) (J:List D) (O:Nat) (U:Int) (Y c5:Nat) (n6:Int) (a7:Option Addr) (e7:List D) (c7:Nat) (n8:Int) (y0:D) (r1:List D) (q1:Nat) (N:Nat):Prop:=AT prog 173 [.sl 0] Q N0 .ord (zE prog 173 10) ⟨an 1 (.pb 0 0 0 0::an 1 (.sv I 0 J O::.int .i64 U::.sb 1 0 0 Y c5::.int .i64 n6::.sv a7 0 e7 c7::.int .i64 n8::an 46 [])),[.vd y0 9,.arr 9 0 r1 q1],N,none⟩
theorem zFh (N:Nat) (x0:D) (Q:QT [.sl 0,.int .i64]) (h :
Bel N x0->∃ n:Int,(x0.cell 0)=D.j n/\Br (n==6) (∃ a b,∃ c:Nat,(x0.cell 8)=D.sl a 9 b c/\Br ((b.length:Int)==1) (∃ s,(x0.cell 1) =
 D.t s/\w2 (1=([D.t s]).length/\1=1) (∀ a b,N<=b->Fresh N b a [D.ag [D.t s]]->uP b (Q a [D.t s] 1 0))) (∃ a:Int,(x0.cell 0)=D.j a /\
 Br (a==8) (∃ a b,∃ c:Nat,(x0.cell 8)=D.sl a 9 b c/\Br ((b.length:Int)==2) (∃ a,(x0.cell 1)=D.t a/\w2 (1=([D.t
 a]).length/\1=1) (∀ b c,N<=c->Fresh N c b [D.ag [D.t a]]->uP c (Q b [D.t a] 1 1))) (∃ a:Int,(x0.cell 0)=D.j a/\Br (a==9) (∃
 a b,∃ c:Nat,(x0.cell 8)=D.sl a 9 b c/\Br ((b.length:Int)==1) (∃ a,(x0.cell 1)=D.t a/\∃ b,(x0.cell 2)=D.t b/\w2 (2 =
 ([D.t a,D.t b]).length/\2=2) (∀ c d,N<=d->Fresh N d c [D.ag [D.t a,D.t b]]->uP d (Q c [D.t a,D.t b] 2 0))) (w2 (0=0/\0=0)
 (∀ a b,N<=b->Fresh N b a [D.ag []]->uP b (Q a [] 0 (-1))))) (w2 (0=0/\0=0) (∀ a b,N<=b->Fresh N b a [D.ag []]->uP b (Q a [] 0
 (-1)))))) (∃ a:Int,(x0.cell 0)=D.j a/\Br (a==9) (∃ a b,∃ c:Nat,(x0.cell 8)=D.sl a 9 b c/\Br ((b.length:Int)==1) (∃
 a,(x0.cell 1)=D.t a/\∃ b,(x0.cell 2)=D.t b/\w2 (2=([D.t a,D.t b]).length/\2=2) (∀ c d,N<=d->Fresh N d c [D.ag [D.t a,
 D.t b]]->uP d (Q c [D.t a,D.t b] 2 0))) (w2 (0=0/\0=0) (∀ a b,N<=b->Fresh N b a [D.ag []]->uP b (Q a [] 0 (-1))))) (w2 (0
 = 0/\0=0) (∀ a b,N<=b->Fresh N b a [D.ag []]->uP b (Q a [] 0 (-1))))))) (∃ a:Int,(x0.cell 0)=D.j a/\Br (a==8) (∃ a
 b,∃ c:Nat,(x0.cell 8)=D.sl a 9 b c/\Br ((b.length:Int)==2) (∃ a,(x0.cell 1)=D.t a/\w2 (1=([D.t a]).length/\1=1) (∀
 b c,N<=c->Fresh N c b [D.ag [D.t a]]->uP c (Q b [D.t a] 1 1))) (∃ a:Int,(x0.cell 0)=D.j a/\Br (a==9) (∃ a b,∃ c
 : Nat,(x0.cell 8)=D.sl a 9 b c/\Br ((b.length:Int)==1) (∃ a,(x0.cell 1)=D.t a/\∃ b,(x0.cell 2)=D.t b/\w2 (2=([D.t a,D.t
 b]).length/\2=2) (∀ c d,N<=d->Fresh N d c [D.ag [D.t a,D.t b]]->uP d (Q c [D.t a,D.t b] 2 0))) (w2 (0=0/\0=0) (∀ a
 b,N<=b->Fresh N b a [D.ag []]->uP b (Q a [] 0 (-1))))) (w2 (0=0/\0=0) (∀ a b,N<=b->Fresh N b a [D.ag []]->uP b (Q a
 [] 0 (-1)))))) (∃ a:Int,(x0.cell 0)=D.j a/\Br (a==9) (∃ a b,∃ c:Nat,(x0.cell 8)=D.sl a 9 b c/\Br ((b.length:Int)==1)
 (∃ a,(x0.cell 1)=D.t a/\∃ b,(x0.cell 2)=D.t b/\w2 (2=([D.t a,D.t b]).length/\2=2) (∀ c d,N<=d->Fresh N d c [D.ag
 [D.t a,D.t b]]->uP d (Q c [D.t a,D.t b] 2 0))) (w2 (0=0/\0=0) (∀ a b,N<=b->Fresh N b a [D.ag []]->uP b (Q a [] 0
 (-1))))) (w2 (0=0/\0=0) (∀ a b,N<=b->Fresh N b a [D.ag []]->uP b (Q a [] 0 (-1))))))):ACalls prog 172 [.sl 0,.int .i64] [PV.dg 9 x0] N Q:=
  eE H0 h
theorem zBc (N:Nat) (I:Option Addr) (e0:List D) (J:Nat) (O:ByteArray) (Q:QT [.sl 0]) (h :
Bel N (D.sl I 0 e0 J)->yM Q N I e0 J O 0 0 0 [] 0 N):ACalls prog 183 [.sl 0] [PV.sv I 0 e0 J,PV.str O] N Q:=
 eE tG h
theorem zBp (N:Nat) (I:Option Addr) (e0:List D) (J:Nat) (a1:Option Addr) (e1:List D) (c1:Nat) (Q:QT [.row 9 0]) (h :
Bel N (D.sl I 0 e0 J)->Bel N (D.sl a1 0 e1 c1)->yT Q N I e0 J a1 e1 c1 0 0 0 [] 0 N):ACalls prog 184 [.row 9 0] [PV.sv I 0 e0 J,PV.sv a1 0 e1 c1] N Q:=
 eE vM h
theorem zEh (N:Nat) (I:D) (Q:QT [.sl 0]) (h :
Bel N I->∃ n:Int,(I.cell 0)=D.j n/\Br (n==1) (∃ s,(I.cell 1)=D.t s/\w2 (1=([D.t s]).length/\1=1) (∀ a b,N<=b->Fresh N b a [D.ag
 [D.t s]]->uP b (Q a [D.t s] 1))) (∀ a,N<=a->ACalls prog 172 [.sl 0,.i] [.dg 9 I] a (λb c d e f=>a<=f->Bel f (D.sl b 0 c d) ->
 zx Q N b c d e 0 0 0 I [] 0 f))):ACalls prog 173 [.sl 0] [PV.dg 9 I] N Q:=
  eE ub h
theorem zCw (N:Nat) (n0:Int) (Q:QT [.str]) (h :
Br (n0==0) (uP N (Q (bytes [48]))) (yd Q N n0 (decide (n0<0)) b0 N)):ACalls prog 187 [.str] [PV.int .i64 n0] N Q:=
 eE rF h
theorem zCu (N:Nat) (I:Option Addr) (e0:List D) (J:Nat) (Q:QT [.str]) (h :
Bel N (D.sl I 0 e0 J)->xh Q N I e0 J 1 N):ACalls prog 185 [.str] [PV.sv I 0 e0 J] N Q:=
 eE sy h
theorem zCf (N:Nat) (I:ByteArray) (Q:QT [.ag 9]) (h :
∀ a,N<=a->Q (D.ag [D.j 1,D.t I,D.t b0,D.j 0,D.j 0,D.sl none 2 [] 0,D.j 0,D.sl none 2 [] 0,D.sl none 9 [] 0]) a):ACalls prog 117 [.ag 9] [PV.str I] N Q:=
  eE H0 h
theorem uB (Q:QT [.sl 0]) (N0:Nat) (a0:Option Addr) (e0:List D) (c0:Nat) (O:ByteArray) (U Y:Nat) (I:Int) (r0:List D) (J:Nat) (N:Nat) (h :
Br (decide (I<(e0.length:Int))) ((0<=I/\I<(e0.length:Int))/\∃ s,List.getD e0 I.toNat default=D.t s/\Br (!(ByteArray.toList s ==
 ByteArray.toList O)) ((0<=I/\I<(e0.length:Int))/\∃ a,List.getD e0 I.toNat default=D.t a/\(U=r0.length/\Y=J)/\zA r0 [D.t a] 16
 /\ ∀ (c:Nat),yM Q N0 a0 e0 c0 O (r0++[D.t a]).length c (IntKind.i64.wrap (I+1)) (r0++[D.t a]) c N) (yM Q N0 a0
 e0 c0 O U Y (IntKind.i64.wrap (I+1)) r0 J N)) (w3 (U=r0.length/\Y=J) (∀ a b,N<=b->Fresh N0 b a [D.ag r0]->uP b (Q a r0 J)))):yM Q N0 a0 e0 c0 O U Y I r0 J N:=
  hE tG h
theorem uS (Q:QT [.row 9 0]) (N0:Nat) (Y:Option Addr) (e0:List D) (c0:Nat) (a1:Option Addr) (e1:List D) (c1 O J:Nat) (I:Int) (r0:List D) (U:Nat) (N:Nat) (h :
Br (decide (I<(e0.length:Int))) ((0<=I/\I<(e0.length:Int))/\∃ s,List.getD e0 I.toNat default=D.t s/\(O=r0.length/\J=U)/\∀ a,
 ApA a r0->∀ b,N<=b->vI b [a]->ACalls prog 61 [.i] [.sv a 0 r0 J,.str s] b (λn a=>b<=a->Br (decide (n<0)) ((0<=I/\I<(e0.length :
 Int))/\∃ b,List.getD e0 I.toNat default=D.t b/\(O=r0.length/\J=U)/\zA r0 [D.t b] 16/\∀ (c:Nat),yT Q N0 Y e0 c0
 a1 e1 c1 (r0++[D.t b]).length c (IntKind.i64.wrap (I+1)) (r0++[D.t b]) c a) (yT Q N0 Y e0 c0 a1 e1 c1 O J (IntKind.i64.wrap (I
 + 1)) r0 U a))) (zu Q N0 a1 e1 c1 O J 0 r0 U N)):yT Q N0 Y e0 c0 a1 e1 c1 O J I r0 U N:=
  hE vM h
theorem tz (Q:QT [.sl 0]) (N0:Nat) (a3:Option Addr) (e3:List D) (c3:Nat) (n4:Int) (U Y:Nat) (I:Int) (J:D) (r1:List D) (O:Nat) (N:Nat) (h :
∃ a b,∃ c:Nat,(J.cell 8)=D.sl a 9 b c/\Br (decide (I<(b.length:Int))) (∃ a b,∃ c:Nat,(J.cell 8)=D.sl a 9 b c/\(0<=I
 /\ I<(b.length:Int))/\kL 0 173 [.dg 9 (List.getD b I.toNat default)] N (λa b c d=>yc Q N0 a3 e3 c3 n4 U Y I a b
 c 0 J r1 O d)) (w3 (U=r1.length/\Y=O) (∀ a b,N<=b->Fresh N0 b a [D.ag r1]->uP b (Q a r1 O)))):zx Q N0 a3 e3 c3 n4 U Y I J r1 O N:=
  hE ub h
theorem zBZ (Q:QT [.str]) (N0:Nat) (n0:Int) (b3:Bool) (I:ByteArray) (N:Nat) (h :
Br (bne n0 0) ((10:Int)≠(0:Int)/\Br (decide (Int.tmod n0 10<0)) (1<=([D.lit (.int IntKind.u8 (IntKind.u8.wrap (IntKind.i64.wrap (48 +
 IntKind.i64.wrap (0 - Int.tmod n0 10)))))]).length/\∃ a:List Int,List.take 1 [D.lit (.int IntKind.u8 (IntKind.u8.wrap (IntKind.i64.wrap (48 +
 IntKind.i64.wrap (0 - Int.tmod n0 10)))))]=List.map (λn=>D.lit (.int IntKind.u8 n)) a/\(ByteArray.size (bytesOf a)+I.size:Nat) <=
 9223372036854775807/\(10:Int)≠(0:Int)/\yd Q N0 (IntKind.i64.wrap (Int.tdiv n0 10)) b3 (bytesOf a++I) N) (1<=([D.lit (.int
 IntKind.u8 (IntKind.u8.wrap (IntKind.i64.wrap (48+Int.tmod n0 10))))]).length/\∃ a:List Int,List.take 1 [D.lit (.int IntKind.u8 (IntKind.u8.wrap
 (IntKind.i64.wrap (48+Int.tmod n0 10))))]=List.map (λa=>D.lit (.int IntKind.u8 a)) a/\(ByteArray.size (bytesOf a)+I.size:Nat) <=
 9223372036854775807/\(10:Int)≠(0:Int)/\yd Q N0 (IntKind.i64.wrap (Int.tdiv n0 10)) b3 (bytesOf a++I) N)) (Br b3 ((1+I.size :
 Nat)<=9223372036854775807/\uP N (Q (bytes [45]++I))) (uP N (Q I)))):yd Q N0 n0 b3 I N:=
  hE rF h
theorem zAK (Q:QT [.str]) (N0:Nat) (a0:Option Addr) (e0:List D) (c0:Nat) (n3:Int) (N:Nat) (h :
kS 187 [.j n3] N (fun s a=>(1+s.size:Nat)<=9223372036854775807/\∀ b,a<=b->ACalls prog 61 [.i] [.sv a0 0 e0 c0,.str (bytes [118]++s)] b
 (fun n a=>b<=a->Br (decide (n<0)) (uP a (Q (bytes [118]++s))) (xh Q N0 a0 e0 c0 (IntKind.i64.wrap (n3+1)) a)))):xh Q N0 a0 e0 c0 n3 N:=
  hE sy h
theorem uy (Q:QT [.row 9 0]) (N0:Nat) (a1:Option Addr) (e1:List D) (c1 m5 c5:Nat) (n7:Int) (r0:List D) (q0:Nat) (N:Nat) (h :
Br (decide (n7<(e1.length:Int))) ((0<=n7/\n7<(e1.length:Int))/\∃ s,List.getD e1 n7.toNat default=D.t s/\(m5=r0.length/\c5=q0)/\∀ a,
 ApA a r0->∀ b,N<=b->vI b [a]->ACalls prog 61 [.i] [.sv a 0 r0 c5,.str s] b (fun n a=>b<=a->Br (decide (n<0)) ((0<=n7/\n7<(e1.length :
 Int))/\∃ b,List.getD e1 n7.toNat default=D.t b/\(m5=r0.length/\c5=q0)/\zA r0 [D.t b] 16/\∀ (c:Nat),zu Q N0 a1 e1 c1
 (r0++[D.t b]).length c (IntKind.i64.wrap (n7+1)) (r0++[D.t b]) c a) (zu Q N0 a1 e1 c1 m5 c5 (IntKind.i64.wrap (n7+1)) r0 q0 a)))
 ((m5=r0.length/\c5=q0)/\uP N (Q r0 c5))):zu Q N0 a1 e1 c1 m5 c5 n7 r0 q0 N:=
  hE vM h
theorem tJ (Q:QT [.sl 0]) (N0:Nat) (a3:Option Addr) (e3:List D) (c3:Nat) (n4:Int) (m5 c5:Nat) (n6:Int) (a7:Option Addr) (e7:List D) (c7:Nat) (n8:Int) (y0:D) (r1:List D) (q1:Nat) (N:Nat) (h :
Br (decide (n8<(e3.length:Int))) (Br (n6==n4) ((0<=n8/\n8<(e3.length:Int))/\∃ s,List.getD e3 n8.toNat default=D.t s/\kL 0 183 [.sv a7 0 e7
 c7,.str s] N (fun a b c d=>yc Q N0 a3 e3 c3 n4 m5 c5 n6 a b c (IntKind.i64.wrap (n8+1)) y0 r1 q1 d)) ((m5=r1.length/\c5=q1)/\∀
 a,ApA a r1->Off [a] (D.sl a7 0 e7 c7)->∀ b,N<=b->vI b [a]->ACalls prog 184 [.row 9 0] [.sv a 0 r1 c5,.sv a7 0 e7 c7] b (fun c d e
 => b<=e->Off [a] (D.ag c)/\(Bel e (D.ag c)->zx Q N0 a3 e3 c3 n4 c.length d (IntKind.i64.wrap (n6+1)) y0 c d e))))
 ((m5=r1.length/\c5=q1)/\∀ a,ApA a r1->Off [a] (D.sl a7 0 e7 c7)->∀ b,N<=b->vI b [a]->ACalls prog 184 [.row 9 0] [.sv a 0 r1 c5,.sv
 a7 0 e7 c7] b (fun c d e=>b<=e->Off [a] (D.ag c)/\(Bel e (D.ag c)->zx Q N0 a3 e3 c3 n4 c.length d (IntKind.i64.wrap
 (n6+1)) y0 c d e)))):yc Q N0 a3 e3 c3 n4 m5 c5 n6 a7 e7 c7 n8 y0 r1 q1 N:=
  hE ub h
end Go.Proofs.YtlahkdflngobiaaGreat
set_option maxRecDepth 100000
namespace Go.Proofs.YtlahkdflngobiaaGreat
open Go Go.Proofs Go.Proofs.Tryz
def zBC:Hint:=⟨[hc 3 [1,3,4]],[],[(5,hs 9 [ec 6 [17]])]⟩
def tg:Hint:=⟨[hc 6 [1,4,5,6]],[],[(1,hs 8 [ec 1 [9]]),(3,hs 4 [ec 1 [18]]),(6,hs 3 [ec 1 [22]]),(8,hs 2 [ec 1 [27]]),(12,hs 8 [ec 1 [39]])]⟩
def wj (Q:QT [.int .i64]) (N0:Nat) (I J:Int) (O:D) (N:Nat):Prop:=AT prog 64 [.int .i64] Q N0 .ord (zE prog 64 3) ⟨an 1 (.pb 0 0 0 0::an 1 (.int .i64 I::.int .i64 J::an 16 [])),[.vd O 9],N,none⟩
def rE (Q:QT [.ag 11]) (N0:Nat) (n1 n6 J O:Int) (U Y:ByteArray) (aa ab:Int) (ac:Option Addr) (ae:List D) (ah:Nat) (ai:Int) (aj:Option Addr) (ak:List D) (al:Nat) (am:Option Addr) (ao:List D) (aq:Nat) (I au:Int) (aw ax:ByteArray) (ay:Int) (az a0 a2 a3:D) (a4 a5:Nat) (r2:List D) (q2:Nat) (N:Nat):Prop:=AT prog 22 [.ag 11] Q N0 .ord (zE prog 22 6) ⟨an 1 (.int .i64 n1::an 2 (.pb 0 0 0 0::.pb 1 0 0 0::.int .i64 n6::an 42 [])),[.var [.int .i64 J,.int .i64 O,.str U,.str Y,.int .i64 aa,.int .i64 ab,.sv ac 2 ae ah,.int .i64 ai,.sv aj 2 ak al,.sv am 9 ao aq,.int .i64 I],.var [.int .i64 au,.str aw,.str ax,.int .i64 ay,.dc az,.dc a0,.dc a2,.dc a3,.sb 2 9 0 a4 a5],.arr 30 9 r2 q2],N,none⟩
def xO (Q:QT [.ag 11]) (N0:Nat) (n1 n6 J O:Int) (U Y:ByteArray) (aa ab:Int) (ac:Option Addr) (ae:List D) (ah:Nat) (ai:Int) (aj:Option Addr) (ak:List D) (al:Nat) (am:Option Addr) (ao:List D) (aq:Nat) (I:Int) (y1:D) (N:Nat):Prop:=AT prog 22 [.ag 11] Q N0 .ord (zE prog 22 6) ⟨an 1 (.int .i64 n1::an 2 (.pb 0 0 0 0::.pb 1 0 0 0::.int .i64 n6::an 42 [])),[.var [.int .i64 J,.int .i64 O,.str U,.str Y,.int .i64 aa,.int .i64 ab,.sv ac 2 ae ah,.int .i64 ai,.sv aj 2 ak al,.sv am 9 ao aq,.int .i64 I],.vd y1 9],N,none⟩
theorem zHm (N:Nat) (I:D) (Q:QT [.int .i64]) (h :
Bel N I->wj Q N 1 0 I N):ACalls prog 64 [.int .i64] [PV.dg 9 I] N Q:=
 eE zBC h
theorem zFd (N:Nat) (I:D) (J:Int) (Q:QT [.ag 11]) (h :
Bel N I->kB 62 [.dg 9 I,.j 0] N (λb a=>Br (!b) (∀ b,a<=b->Q (D.ag [D.j 0,D.j 0,D.t b0,D.t b0,D.j 0,D.j 0,D.sl none 2 [] 0,D.j 0,
 D.sl none 2 [] 0,D.sl none 9 [] 0,D.j 0]) b) (kB 63 [.j J,.j 0,.j 200] a (λa b=>Br (!a) (∀ a,b<=a->Q (D.ag [D.j 0,D.j 0,D.t b0,D.t b0,
 D.j 0,D.j 0,D.sl none 2 [] 0,D.j 0,D.sl none 2 [] 0,D.sl none 9 [] 0,D.j 0]) a) (∀ a,b<=a->ACalls prog 50 [.pk,.i,.str,.str,.i,.dc,.dc,.dc,
 .dc,.row 30 9] [.dg 9 I] a (λn s b c x d e f g h i=>a<=i->Bel i (D.ag g)->rE Q N J 0 0 0 b0 b0 0 0 none [] 0 0 none []
 0 none [] 0 0 n s b c x d e f g.length h g h i)))))):ACalls prog 22 [.ag 11] [PV.dg 9 I,PV.int .i64 J] N Q:=
  eE tg h
theorem rP (Q:QT [.int .i64]) (N0:Nat) (n3 n4:Int) (y0:D) (N:Nat) (h :
∃ a b,∃ c:Nat,(y0.cell 8)=D.sl a 9 b c/\Br (decide (n4<(b.length:Int))) (∃ a b,∃ c:Nat,(y0.cell 8)=D.sl a 9 b c/\(0<=n4
 /\ n4<(b.length:Int))/\∀ a,N<=a->ACalls prog 64 [.i] [.dg 9 (List.getD b n4.toNat default)] a (fun n b=>a<=b->wj Q N0
 (IntKind.i64.wrap (n3+n)) (IntKind.i64.wrap (n4+1)) y0 b)) (uP N (Q n3))):wj Q N0 n3 n4 y0 N:=
  hE zBC h
theorem zDS (Q:QT [.ag 11]) (N0:Nat) (n1 n6 n0_0 n0_1:Int) (s0_2 s0_3:ByteArray) (n0_4 n0_5:Int) (a0_6:Option Addr) (e0_6:List D) (c0_6:Nat) (n0_7:Int) (a0_8:Option Addr) (e0_8:List D) (c0_8:Nat) (a0_9:Option Addr) (e0_9:List D) (c0_9:Nat) (n0_10 n1_0:Int) (s1_1 s1_2:ByteArray) (n1_3:Int) (x1_4 x1_5 x1_6 x1_7:D) (m1_8 c1_8:Nat) (r2:List D) (q2:Nat) (N:Nat) (h :
(m1_8=r2.length/\c1_8=q2)/\(m1_8=r2.length/\c1_8=q2)/\∀ a c,N<=c->Fresh N0 c a [D.ag r2]->∀ d,c<=d->ACalls prog 64 [.i] [.dg 9
 (D.ag [D.j n1_0,D.t s1_1,D.t s1_2,D.j n1_3,x1_4,x1_5,x1_6,x1_7,D.sl a 9 r2 q2])] d (fun n c=>d<=c->Br (decide (n>400)) (∀ a,c<=a->Q
 (D.ag [D.j 3,D.j 0,D.t b0,D.t b0,D.j 0,D.j 0,D.sl none 2 [] 0,D.j 0,D.sl none 2 [] 0,D.sl none 9 [] 0,D.j n6]) a) (kB 65 [.dg 9 (D.ag [D.j n1_0,D.t
 s1_1,D.t s1_2,D.j n1_3,x1_4,x1_5,x1_6,x1_7,D.sl a 9 r2 q2])] c (fun b c=>Br b (uP c (Q (D.ag [D.j 1,D.j n1_0,D.t s1_1,D.t s1_2,D.j n1_3,x1_4,
 x1_5,x1_6,x1_7,D.sl a 9 r2 q2,D.j n6]))) (Br (n6==n1) (uP c (Q (D.ag [D.j 2,D.j n1_0,D.t s1_1,D.t s1_2,D.j n1_3,x1_4,x1_5,x1_6,x1_7,D.sl a 9 r2
 q2,D.j n6]))) (∀ b,c<=b->ACalls prog 66 [.ag 9,.i] [.dg 9 (D.ag [D.j n1_0,D.t s1_1,D.t s1_2,D.j n1_3,x1_4,x1_5,x1_6,x1_7,D.sl a 9 r2 q2])] b
 (fun x c d=>b<=d->Bel d x->Br (c==0) (uP d (Q (D.ag [D.j 4,D.j n1_0,D.t s1_1,D.t s1_2,D.j n1_3,x1_4,x1_5,x1_6,x1_7,D.sl a 9 r2 q2,
 D.j n6]))) (xO Q N0 n1 (IntKind.i64.wrap (n6+1)) n0_0 n0_1 s0_2 s0_3 n0_4 n0_5 a0_6 e0_6 c0_6 n0_7 a0_8 e0_8 c0_8 a0_9 e0_9 c0_9 n0_10 x
 d)))))))):rE Q N0 n1 n6 n0_0 n0_1 s0_2 s0_3 n0_4 n0_5 a0_6 e0_6 c0_6 n0_7 a0_8 e0_8 c0_8 a0_9 e0_9 c0_9 n0_10 n1_0 s1_1 s1_2 n1_3 x1_4 x1_5 x1_6 x1_7 m1_8 c1_8 r2 q2 N:=
  hE tg h
theorem uw (Q:QT [.ag 11]) (N0:Nat) (n1 n6 O U:Int) (Y aa:ByteArray) (ab ac:Int) (ae:Option Addr) (ah:List D) (ai:Nat) (aj:Int) (ak:Option Addr) (al:List D) (am:Nat) (ao:Option Addr) (aq:List D) (au:Nat) (J:Int) (I:D) (N:Nat) (h :
∀ a,N<=a->ACalls prog 64 [.i] [.dg 9 I] a (λn c=>a<=c->Br (decide (n>400)) (∀ a,c<=a->Q (D.ag [D.j 3,D.j 0,D.t b0,D.t b0,D.j
 0,D.j 0,D.sl none 2 [] 0,D.j 0,D.sl none 2 [] 0,D.sl none 9 [] 0,D.j n6]) a) (kB 65 [.dg 9 I] c (λb a=>Br b (uP a (Q (D.ag [D.j 1,(I.cell 0),
 (I.cell 1),(I.cell 2),(I.cell 3),(I.cell 4),(I.cell 5),(I.cell 6),(I.cell 7),(I.cell 8),D.j n6]))) (Br (n6==n1) (uP a (Q (D.ag [D.j 2,
 (I.cell 0),(I.cell 1),(I.cell 2),(I.cell 3),(I.cell 4),(I.cell 5),(I.cell 6),(I.cell 7),(I.cell 8),D.j n6]))) (∀ b,a<=b->ACalls prog 66
 [.ag 9,.i] [.dg 9 I] b (λx a c=>b<=c->Bel c x->Br (a==0) (uP c (Q (D.ag [D.j 4,(I.cell 0),(I.cell 1),(I.cell 2),(I.cell 3),
 (I.cell 4),(I.cell 5),(I.cell 6),(I.cell 7),(I.cell 8),D.j n6]))) (xO Q N0 n1 (IntKind.i64.wrap (n6+1)) O U Y aa ab
 ac ae ah ai aj ak al am ao aq au J x c)))))))):xO Q N0 n1 n6 O U Y aa ab ac ae ah ai aj ak al am ao aq au J I N:=
  hE tg h
end Go.Proofs.YtlahkdflngobiaaGreat
set_option maxRecDepth 100000
namespace Go.Proofs.YtlahkdflngobiaaGreat
open Go Go.Proofs Go.Proofs.Tryz
def tV:Hint:=⟨[hc 4 [0,4,5,6] [(4,62,4),(5,62,4)]],[],[(6,[en 0,en 1,en 2,en 3,en 4,en 5,en 6,en 7,en 8,en 9,en 11,en 12,en 13,en 14,en 15,en 17,ec 10 [25],en 16,eh 18])]⟩
def tA:Hint:=⟨[hc 3 [4,5,11,12,13] [(4,62,4),(5,62,4)]],[],[(5,[en 0,en 1,en 2,en 3,en 5,en 6,en 8,ec 4 [20],en 7,eh 9])]⟩
def yL (Q:QT [.sl 4,.sl 4]) (N0:Nat) (I:Option Addr) (e0:List D) (J O U Y c5:Nat) (n6:Int) (r0:List D) (q0:Nat) (r1:List D) (q1:Nat) (N:Nat):Prop:=AT prog 18 [.sl 4,.sl 4] Q N0 .ord (zE prog 18 4) ⟨.sv I 4 e0 J::an 3 (.sb 0 4 0 O U::.sb 1 4 0 Y c5::.int .i64 n6::an 38 []),[.arr 62 4 r0 q0,.arr 62 4 r1 q1],N,none⟩
def yN (Q:QT [.sl 4,.sl 4]) (N0:Nat) (m4 c4 m5 c5:Nat) (I:Option Addr) (J:List D) (O:Nat) (U Y:Int) (r0:List D) (q0:Nat) (r1:List D) (q1:Nat) (N:Nat):Prop:=AT prog 17 [.sl 4,.sl 4] Q N0 .ord (zE prog 17 3) ⟨an 4 (.sb 0 4 0 m4 c4::.sb 1 4 0 m5 c5::an 5 (.sv I 4 J O::.int .i64 U::.int .i64 Y::an 24 [])),[.arr 62 4 r0 q0,.arr 62 4 r1 q1],N,none⟩
theorem sc (N:Nat) (n0:Int) (Q:QT [.ag 9]) (h :
∀ a,N<=a->Q (D.ag [D.j 3,D.t b0,D.t b0,D.j n0,D.j 0,D.sl none 2 [] 0,D.j 0,D.sl none 2 [] 0,D.sl none 9 [] 0]) a):ACalls prog 94 [.ag 9] [PV.int .i64 n0] N Q:=
  eE H0 h
theorem rd (N:Nat) (n0:Int) (Q:QT [.ag 9]) (h :
∀ a,N<=a->Q (D.ag [D.j 2,D.t b0,D.t b0,D.j n0,D.j 0,D.sl none 2 [] 0,D.j 0,D.sl none 2 [] 0,D.sl none 9 [] 0]) a):ACalls prog 95 [.ag 9] [PV.int .i64 n0] N Q:=
  eE H0 h
theorem zB4 (N:Nat) (I:D) (J:Int) (Q:QT [.ag 9]) (h :
Bel N I->∃ n:Int,(I.cell 0)=D.j n/\Br (n==2) (kA 9 94 [.j J] N (λx a=>uP a (Q x))) (kA 9 95 [.j J] N (λa b=>uP b (Q a))) ):ACalls prog 46 [.ag 9] [PV.dg 2 I,PV.int .i64 J] N Q:=
 eE H0 h
theorem zA2 (N:Nat) (I:Option Addr) (e0:List D) (J:Nat) (Q:QT [.sl 4,.sl 4]) (h :
Bel N (D.sl I 4 e0 J)->yL Q N I e0 J 0 0 0 0 0 [] 0 [] 0 N):ACalls prog 18 [.sl 4,.sl 4] [PV.sv I 4 e0 J] N Q:=
 eE tV h
theorem zAd (N:Nat) (I:Option Addr) (e0:List D) (J:Nat) (Q:QT [.sl 4,.sl 4]) (h :
Bel N (D.sl I 4 e0 J)->yN Q N 0 0 0 0 I e0 J (e0.length:Int) 0 [] 0 [] 0 N):ACalls prog 17 [.sl 4,.sl 4] [PV.sv I 4 e0 J] N Q:=
 eE tA h
theorem zIy (N:Nat) (n0:Int) (Q:QT [.ag 9]) (h :
∀ a,N<=a->Q (D.ag [D.j 2,D.t b0,D.t b0,D.j n0,D.j 0,D.sl none 2 [] 0,D.j 0,D.sl none 2 [] 0,D.sl none 9 [] 0]) a):ACalls prog 125 [.ag 9] [PV.int .i64 n0] N Q:=
  eE H0 h
theorem zFT (N:Nat) (n0:Int) (b1:Bool) (Q:QT [.ag 9]) (h :
Br b1 (∀ a,N<=a->Q (D.ag [D.j 3,D.t b0,D.t b0,D.j n0,D.j 0,D.sl none 2 [] 0,D.j 0,D.sl none 2 [] 0,D.sl none 9 [] 0]) a) (kA 9 125 [.j n0] N
 (fun x a=>uP a (Q x)))):ACalls prog 80 [.ag 9] [PV.int .i64 n0,PV.bool b1] N Q:=
  eE H0 h
theorem uD (Q:QT [.sl 4,.sl 4]) (N0:Nat) (a0:Option Addr) (e0:List D) (c0 U Y m5 c5:Nat) (I:Int) (r0:List D) (J:Nat) (r1:List D) (O:Nat) (N:Nat) (h :
Br (decide (I<(e0.length:Int))) ((0<=I/\I<(e0.length:Int))/\∃ s,(if 0=0 then D.cell (List.getD e0 I.toNat default) 0 else D.sub
 (List.getD e0 I.toNat default) 0 0)=D.t s/\(0<=I/\I<(e0.length:Int))/\(0<=I/\I<(e0.length:Int))/\∃ b:Bool,(if 0=0 then D.cell
 (List.getD e0 I.toNat default) 3 else D.sub (List.getD e0 I.toNat default) 3 0)=D.lit (.bool b)/\kA 2 54 [.dg 2 (if 2=0 then D.cell (List.getD e0
 I.toNat default) 1 else D.sub (List.getD e0 I.toNat default) 1 2)] N (λx a=>Br b ((m5=r1.length/\c5=O)/\zA r1 [D.ag [D.t s,(x.cell 0),
 (x.cell 1),D.lit (.bool b)]] 56/\∀ (c:Nat),yL Q N0 a0 e0 c0 U Y (r1++[D.ag [D.t s,(x.cell 0),(x.cell 1),D.lit (.bool b)]]).length
 c (IntKind.i64.wrap (I+1)) r0 J (r1++[D.ag [D.t s,(x.cell 0),(x.cell 1),D.lit (.bool b)]]) c a) ((U=r0.length/\Y=J)/\zA r0 [D.ag [D.t s,
 (x.cell 0),(x.cell 1),D.lit (.bool b)]] 56/\∀ (c:Nat),yL Q N0 a0 e0 c0 (r0++[D.ag [D.t s,(x.cell 0),(x.cell 1),D.lit (.bool
 b)]]).length c m5 c5 (IntKind.i64.wrap (I+1)) (r0++[D.ag [D.t s,(x.cell 0),(x.cell 1),D.lit (.bool b)]]) c r1 O a))) (w3 (U=r0.length/\Y =
 J) (∀ a b,N<=b->Fresh N0 b a [D.ag r0,D.ag r1]->w3 (m5=r1.length/\c5=O) (∀ c d,b<=d->Fresh N0 d c [D.ag r1,D.sl a 4 r0 J]->uP d (Q
 a r0 J c r1 O))))):yL Q N0 a0 e0 c0 U Y m5 c5 I r0 J r1 O N:=
  hE tV h
theorem uA (Q:QT [.sl 4,.sl 4]) (N0:Nat) (m4 c4 m5 c5:Nat) (U:Option Addr) (J:List D) (Y:Nat) (O I:Int) (r0:List D) (q0:Nat) (r1:List D) (q1:Nat) (N:Nat) (h :
Br (decide (I<O)) ((0<=I/\I<(J.length:Int))/\∃ s,D.cell (List.getD J I.toNat default) 0=D.t s/\∃ b:Bool,D.cell (List.getD J
 I.toNat default) 3=D.lit (.bool b)/\kA 2 53 [.dg 2 (D.sub (List.getD J I.toNat default) 1 2)] N (λx a=>∃ d:Bool,D.cell (List.getD J
 I.toNat default) 3=D.lit (.bool d)/\Br d ((m5=r1.length/\c5=q1)/\zA r1 [D.ag [D.t s,(x.cell 0),(x.cell 1),D.lit (.bool b)]] 56/\∀ (c :
 Nat),yN Q N0 m4 c4 (r1++[D.ag [D.t s,(x.cell 0),(x.cell 1),D.lit (.bool b)]]).length c U J Y O (IntKind.i64.wrap (I+1)) r0
 q0 (r1++[D.ag [D.t s,(x.cell 0),(x.cell 1),D.lit (.bool b)]]) c a) ((m4=r0.length/\c4=q0)/\zA r0 [D.ag [D.t s,(x.cell 0),(x.cell 1),D.lit
 (.bool b)]] 56/\∀ (c:Nat),yN Q N0 (r0++[D.ag [D.t s,(x.cell 0),(x.cell 1),D.lit (.bool b)]]).length c m5 c5 U J Y O
 (IntKind.i64.wrap (I+1)) (r0++[D.ag [D.t s,(x.cell 0),(x.cell 1),D.lit (.bool b)]]) c r1 q1 a))) (w3 (m4=r0.length/\c4=q0) (∀ a b,N<=b ->
 Fresh N0 b a [D.ag r0,D.ag r1]->w3 (m5=r1.length/\c5=q1) (∀ c d,b<=d->Fresh N0 d c [D.ag r1,D.sl a 4 r0 q0]->uP d (Q a r0 q0 c r1
 q1))))):yN Q N0 m4 c4 m5 c5 U J Y O I r0 q0 r1 q1 N:=
  hE tA h
end Go.Proofs.YtlahkdflngobiaaGreat
set_option maxRecDepth 100000
namespace Go.Proofs.YtlahkdflngobiaaGreat
open Go Go.Proofs Go.Proofs.Tryz
def zIx:Hint:=⟨[],[],[(3,hs 4 [ec 1 [13]])]⟩
def vR:Hint:=⟨[hc 3 [0,4,5,6]],[],[(1,hs 4 [ec 1 [7]]),(5,[en 0,en 1,en 2,en 3,en 4,en 5,en 6,en 7,en 8,en 9,en 10,ec 11 [25,26],eh 12])]⟩
def zJb:Hint:=⟨[],[],[(1,[en 0,en 1,en 3,en 4,ec 2 [8],en 5,eh 6])]⟩
def uq (Q:QT [.ag 9]) (N0:Nat) (a0:Option Addr) (e0:List D) (c0:Nat) (n6 I:Int) (J O:ByteArray) (U Y:Int) (aa:Option Addr) (ab:List D) (ac:Nat) (ae:Int) (ah:Option Addr) (ai:List D) (aj:Nat) (ak:Option Addr) (al:List D) (am:Nat) (ao:Int) (aq au:ByteArray) (aw:Int) (ax ay az a2:D) (a3 a4:Nat) (r2:List D) (q2:Nat) (N:Nat):Prop:=AT prog 15 [.ag 9] Q N0 .ord (zE prog 15 3) ⟨.sv a0 4 e0 c0::an 3 (.pb 0 0 0 0::.pb 1 0 0 0::.int .i64 n6::an 22 []),[.var [.int .i64 I,.str J,.str O,.int .i64 U,.int .i64 Y,.sv aa 2 ab ac,.int .i64 ae,.sv ah 2 ai aj,.sv ak 9 al am],.var [.int .i64 ao,.str aq,.str au,.int .i64 aw,.dc ax,.dc ay,.dc az,.dc a2,.sb 2 9 0 a3 a4],.arr 30 9 r2 q2],N,none⟩
def yV (Q:QT [.ag 9]) (N0:Nat) (a0:Option Addr) (e0:List D) (c0:Nat) (n6 I:Int) (J O:ByteArray) (U Y:Int) (aa:Option Addr) (ab:List D) (ac:Nat) (ae:Int) (ah:Option Addr) (ai:List D) (aj:Nat) (ak:Option Addr) (al:List D) (am:Nat) (y1:D) (N:Nat):Prop:=AT prog 15 [.ag 9] Q N0 .ord (zE prog 15 3) ⟨.sv a0 4 e0 c0::an 3 (.pb 0 0 0 0::.pb 1 0 0 0::.int .i64 n6::an 22 []),[.var [.int .i64 I,.str J,.str O,.int .i64 U,.int .i64 Y,.sv aa 2 ab ac,.int .i64 ae,.sv ah 2 ai aj,.sv ak 9 al am],.vd y1 9],N,none⟩
theorem zCg (N:Nat) (O:ByteArray) (J I:D) (Q:QT [.ag 9]) (h :
Bel N J->Bel N I->(1=([I]).length/\1=1)/\∀ a,ApA a [I]->∀ b,N<=b->vI b [a]->ACalls prog 45 [.ag 9] [.j 6,.sv a 9 [I] 1] b (λx
 c=>b<=c->Off [a] x/\(Bel c x->kA 2 54 [.dg 2 J] c (λa b=>uP b (Q (D.ag [(x.cell 0),D.t O,(x.cell 2),(x.cell 3),(a.cell 0),(a.cell
 1),(x.cell 6),(x.cell 7),(x.cell 8)])))))):ACalls prog 51 [.ag 9] [PV.str O,PV.dg 2 J,PV.dg 9 I] N Q:=
  eE zIx h
theorem zCK (N:Nat) (I:Option Addr) (e0:List D) (J:Nat) (O:D) (Q:QT [.ag 9]) (h :
Bel N (D.sl I 4 e0 J)->Bel N O->∀ a,N<=a->ACalls prog 50 [.pk,.i,.str,.str,.i,.dc,.dc,.dc,.dc,.row 30 9] [.dg 9 O] a (λn s b c
 x d e f g h i=>a<=i->Bel i (D.ag g)->uq Q N I e0 J (IntKind.i64.wrap ((e0.length:Int) - 1)) 0 b0 b0 0 0 none [] 0 0 none
 [] 0 none [] 0 n s b c x d e f g.length h g h i)):ACalls prog 15 [.ag 9] [PV.sv I 4 e0 J,PV.dg 9 O] N Q:=
  eE vR h
theorem zJB (N:Nat) (O:ByteArray) (J I:D) (Q:QT [.ag 9]) (h :
Bel N J->Bel N I->kA 2 53 [.dg 2 J] N (λx b=>w3 (1=([I]).length/\1=1) (∀ a c,b<=c->Fresh N c a [D.ag [I],(x.cell 0),(x.cell 1),
 D.sl none 2 [] 0]->∀ b,c<=b->Q (D.ag [D.j 6,D.t O,D.t b0,D.j 0,(x.cell 0),(x.cell 1),D.j 0,D.sl none 2 [] 0,D.sl a 9 [I] 1]) b))):ACalls prog 49 [.ag 9] [PV.str O,PV.dg 2 J,PV.dg 9 I] N Q:=
  eE zJb h
theorem pu (Q:QT [.ag 9]) (N0:Nat) (a0:Option Addr) (e0:List D) (c0:Nat) (n6 n0_0:Int) (s0_1 s0_2:ByteArray) (n0_3 n0_4:Int) (a0_5:Option Addr) (e0_5:List D) (c0_5:Nat) (n0_6:Int) (a0_7:Option Addr) (e0_7:List D) (c0_7:Nat) (a0_8:Option Addr) (e0_8:List D) (c0_8:Nat) (n1_0:Int) (s1_1 s1_2:ByteArray) (n1_3:Int) (x1_4 x1_5 x1_6 x1_7:D) (m1_8 c1_8:Nat) (r2:List D) (q2:Nat) (N:Nat) (h :
Br (decide (n6≥0)) ((0<=n6/\n6<(e0.length:Int))/\∃ s,(if 0=0 then D.cell (List.getD e0 n6.toNat default) 0 else D.sub (List.getD e0 n6.toNat
 default) 0 0)=D.t s/\(0<=n6/\n6<(e0.length:Int))/\w2 (m1_8=r2.length/\c1_8=q2) (∀ a b,N<=b->Fresh N0 b a [D.ag r2]->kA 9 51 [.str s,.dg 2
 (if 2=0 then D.cell (List.getD e0 n6.toNat default) 1 else D.sub (List.getD e0 n6.toNat default) 1 2),.dg 9 (D.ag [D.j n1_0,D.t s1_1,D.t s1_2,D.j n1_3,
 x1_4,x1_5,x1_6,x1_7,D.sl a 9 r2 q2])] b (fun x a=>yV Q N0 a0 e0 c0 (IntKind.i64.wrap (n6 - 1)) n0_0 s0_1 s0_2 n0_3 n0_4 a0_5 e0_5
 c0_5 n0_6 a0_7 e0_7 c0_7 a0_8 e0_8 c0_8 x a))) (w3 (m1_8=r2.length/\c1_8=q2) (∀ a b,N<=b->Fresh N0 b a [D.ag r2,x1_4,x1_5,x1_6,x1_7]->uP b
 (Q (D.ag [D.j n1_0,D.t s1_1,D.t s1_2,D.j n1_3,x1_4,x1_5,x1_6,x1_7,D.sl a 9 r2 q2]))))):uq Q N0 a0 e0 c0 n6 n0_0 s0_1 s0_2 n0_3 n0_4 a0_5 e0_5 c0_5 n0_6 a0_7 e0_7 c0_7 a0_8 e0_8 c0_8 n1_0 s1_1 s1_2 n1_3 x1_4 x1_5 x1_6 x1_7 m1_8 c1_8 r2 q2 N:=
  hE vR h
theorem vJ (Q:QT [.ag 9]) (N0:Nat) (a0:Option Addr) (e0:List D) (c0:Nat) (I J:Int) (O U:ByteArray) (Y aa:Int) (ab:Option Addr) (ac:List D) (ae:Nat) (ah:Int) (ai:Option Addr) (aj:List D) (ak:Nat) (al:Option Addr) (am:List D) (ao:Nat) (y1:D) (N:Nat) (h :
Br (decide (I≥0)) ((0<=I/\I<(e0.length:Int))/\∃ s,(if 0=0 then D.cell (List.getD e0 I.toNat default) 0 else D.sub (List.getD e0 I.toNat
 default) 0 0)=D.t s/\(0<=I/\I<(e0.length:Int))/\kA 9 51 [.str s,.dg 2 (if 2=0 then D.cell (List.getD e0 I.toNat default) 1 else D.sub (List.getD
 e0 I.toNat default) 1 2),.dg 9 y1] N (λx a=>yV Q N0 a0 e0 c0 (IntKind.i64.wrap (I - 1)) J O U Y aa ab ac ae
 ah ai aj ak al am ao x a)) (uP N (Q y1))):yV Q N0 a0 e0 c0 I J O U Y aa ab ac ae ah ai aj ak al am ao y1 N:=
  hE vR h
end Go.Proofs.YtlahkdflngobiaaGreat
