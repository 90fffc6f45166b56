/- Printed by gen.py: what the functions come to. -/
import Derived.Test.YtmfjakahanbnlaaGreatDoorJh
set_option linter.unusedVariables false
set_option maxRecDepth 100000
namespace Go.Proofs.YtmfjakahanbnlaaGreatDoor
open Go Go.Proofs Go.Proofs.Tryz
def zA8:Hint:=⟨[hc 3 [1,2,3,4] [] [(3,8,35,9)]],[],[(1,[en 0,en 1,en 2,en 3,en 4,en 5,en 6,en 7,en 8,en 9,en 11,en 12,en 15,{ i:=10,hard:=true,cl:=[14],fs:=[3,14] },{ i:=13,hard:=true,cl:=[17],fs:=[3,17] },en 14,eh 16]),(5,[en 0,en 1,en 2,en 3,en 4,en 5,en 6,{ i:=7,hard:=true,cl:=[33],fs:=[3,33] },{ i:=8,hard:=true,cl:=[34],fs:=[3,34] },eh 9,en 10,eh 11])]⟩
def zAu:Hint:=⟨[hc 3 [1,4,5,6] [] [(5,8,35,9)]],[],[(5,[en 0,en 1,en 2,en 3,en 4,en 5,{ i:=6,hard:=true,cl:=[20],fs:=[5,20] },{ i:=7,hard:=true,cl:=[21],fs:=[5,21] },eh 8,en 9,eh 10])]⟩
def zJd:Hint:=⟨[],[],[]⟩
def zCy:Hint:=⟨[],[],[(1,[en 0,en 1,en 2,en 3,en 4,en 5,en 6,en 7,en 8,en 9,en 11,en 12,en 14,ec 10 [14],ec 13 [17],en 15,eh 16])]⟩
def uv:Hint:=⟨[hc 3 [1,2,4,5,10,11,12] [(5,35,9)]],[],[(5,hs 7 [{ i:=3,hard:=true,cl:=[18],fs:=[5,18] },{ i:=4,hard:=true,cl:=[19],fs:=[5,19] }]),(7,hs 4 [{ i:=2,hard:=true,cl:=[23],fs:=[5,23] }])]⟩
def zEh:Hint:=⟨[],[],[(1,hs 3 [ec 1 [3]])]⟩
def zHQ:Hint:=⟨[],[],[]⟩
def xT (Q:QT [.pk,.int .i64,.str,.str,.int .i64,.dc,.dc,.dc,.dc,.row 35 9]) (N0:Nat) (n4:Int) (y0:D) (I:Int) (J O:ByteArray) (U Y:Int) (aa:Option Addr) (ab:List D) (ac:Nat) (ae:Int) (ah:Option Addr) (ai:List D) (aj:Nat) (ak:Option Addr) (al:List D) (am:Nat) (ao:Int) (aq au:ByteArray) (aw:Int) (ax ay az a1:D) (a6 a7:Nat) (r3:List D) (q3:Nat) (N:Nat):Prop:=AT prog 83 [.pk,.int .i64,.str,.str,.int .i64,.dc,.dc,.dc,.dc,.row 35 9] Q N0 .ord (zC prog 83 3) ⟨an 1 (.pb 0 0 0 0::.pb 1 0 0 0::.pb 2 0 0 0::.int .i64 n4::an 34 []),[.vd y0 9,.var [.int .i64 I,.str J,.str O,.int .i64 U,.int .i64 Y,.sv aa 2 ab ac,.int .i64 ae,.sv ah 2 ai aj,.sv ak 9 al am],.var [.int .i64 ao,.str aq,.str au,.int .i64 aw,.dc ax,.dc ay,.dc az,.dc a1,.sb 3 9 0 a6 a7],.arr 35 9 r3 q3],N,none⟩
def wl (Q:QT [.ag 9]) (N0:Nat) (a1:Option Addr) (e1:List D) (c1:Nat) (n6 I:Int) (J O:ByteArray) (U Y:Int) (aa:Option Addr) (ab:List D) (ac:Nat) (ae:Int) (ah:Option Addr) (ai:List D) (aj:Nat) (ak:Option Addr) (al:List D) (am:Nat) (ao:Int) (aq au:ByteArray) (aw ax:Int) (ay:Option Addr) (az:List D) (a6:Nat) (a7:Int) (a8:Option Addr) (ba:List D) (bb bc bd:Nat) (r2:List D) (q2:Nat) (N:Nat):Prop:=AT prog 210 [.ag 9] Q N0 .ord (zC prog 210 3) ⟨an 1 (.sv a1 9 e1 c1::an 2 (.pb 0 0 0 0::.pb 1 0 0 0::.int .i64 n6::an 19 [])),[.var [.int .i64 I,.str J,.str O,.int .i64 U,.int .i64 Y,.sv aa 2 ab ac,.int .i64 ae,.sv ah 2 ai aj,.sv ak 9 al am],.var [.int .i64 ao,.str aq,.str au,.int .i64 aw,.int .i64 ax,.sv ay 2 az a6,.int .i64 a7,.sv a8 2 ba bb,.sb 2 9 0 bc bd],.arr 35 9 r2 q2],N,none⟩
def ye (Q:QT [.pk,.int .i64,.str,.str,.int .i64,.dc,.dc,.dc,.dc,.row 35 9]) (N0:Nat) (m5 c5:Nat) (ao:Option Addr) (aq:List D) (au:Nat) (aw ax:Int) (y0:D) (I:Int) (J O:ByteArray) (U Y:Int) (aa:Option Addr) (ab:List D) (ac:Nat) (ae:Int) (ah:Option Addr) (ai:List D) (aj:Nat) (ak:Option Addr) (al:List D) (am:Nat) (r2:List D) (q2:Nat) (N:Nat):Prop:=AT prog 160 [.pk,.int .i64,.str,.str,.int .i64,.dc,.dc,.dc,.dc,.row 35 9] Q N0 .ord (zC prog 160 3) ⟨an 1 (.fn 101 []::.pb 0 0 0 0::an 1 (.pb 1 0 0 0::.sb 2 9 0 m5 c5::an 4 (.sv ao 9 aq au::.int .i64 aw::.int .i64 ax::an 13 []))),[.vd y0 9,.var [.int .i64 I,.str J,.str O,.int .i64 U,.int .i64 Y,.sv aa 2 ab ac,.int .i64 ae,.sv ah 2 ai aj,.sv ak 9 al am],.arr 35 9 r2 q2],N,none⟩
theorem zBL (N:Nat) (I:D) (Q:QT [.pk,.int .i64,.str,.str,.int .i64,.dc,.dc,.dc,.dc,.row 35 9]) (h :
Bel N I->∃ n:Int,(I.cell 0)=D.lit (.int .i64 n)/\∃ s,(I.cell 1)=D.lit (.string s)/\∃ a,(I.cell 2)=D.lit (.string a)/\∃ b:Int,(I.cell
 3)=D.lit (.int .i64 b)/\∀ c,N<=c->ACalls prog 141 [.ag 2] [.dg 2 (D.sub I 4 2)] c (λx d=>c<=d->Bel d x->∀ c,d<=c->ACalls
 prog 141 [.ag 2] [.dg 2 (D.sub I 6 2)] c (λd e=>c<=e->Bel e d->xT Q N 0 I 0 (bytes []) (bytes []) 0 0 Option.none [] 0 0 Option.none
 [] 0 Option.none [] 0 n s a b (x.cell 0) (x.cell 1) (d.cell 0) (d.cell 1) 0 0 [] 0 e))):ACalls prog 83 [.pk,.int .i64,.str,.str,.int .i64,.dc,.dc,.dc,.dc,.row 35 9] [PV.dg 9 I] N Q:=
  eE (H:=zA8) (by kernel_rfl) (by kernel_rfl) h
theorem zIX (N:Nat) (n0:Int) (I:Option Addr) (e1:List D) (J:Nat) (Q:QT [.ag 9]) (h :
Bel N (D.sl I 9 e1 J)->wl Q N I e1 J 0 0 (bytes []) (bytes []) 0 0 Option.none [] 0 0 Option.none [] 0 Option.none [] 0 n0 (bytes []) (bytes [])
 0 0 Option.none [] 0 0 Option.none [] 0 0 0 [] 0 N):ACalls prog 210 [.ag 9] [PV.int .i64 n0,PV.sv I 9 e1 J] N Q:=
  eE (H:=zAu) (by kernel_rfl) (by kernel_rfl) h
theorem zJY (N:Nat) (O:ByteArray) (I J:D) (Q:QT [.ag 9]) (h :
Bel N I->Bel N J->(2=([I,J]).length/\2=2)/\∀ a,ApA a [I,J]->∀ b,N<=b->wL b [a]->ACalls prog 210 [.ag 9] [.int .i64 8,.sv a 9 [I,
 J] 2] b (λx c=>b<=c->Off [a] x/\(Bel c x->∀ a,c<=a->Q (D.ag [(x.cell 0),D.lit (.string O),(x.cell 2),(x.cell 3),(x.cell 4),(x.cell
 5),(x.cell 6),(x.cell 7),(x.cell 8)]) a))):ACalls prog 261 [.ag 9] [PV.str O,PV.dg 9 I,PV.dg 9 J] N Q:=
  eE (H:=zJd) (by kernel_rfl) (by kernel_rfl) h
theorem zC6 (N:Nat) (I:D) (J:Option Addr) (e1:List D) (O:Nat) (Q:QT [.pk,.int .i64,.str,.str,.int .i64,.dc,.dc,.dc,.dc,.bk 1]) (h :
Bel N I->Bel N (D.sl J 9 e1 O)->∃ n:Int,(I.cell 0)=D.lit (.int .i64 n)/\∃ s,(I.cell 1)=D.lit (.string s)/\∃ a,(I.cell 2)=D.lit (.string a)
 /\ ∃ b:Int,(I.cell 3)=D.lit (.int .i64 b)/\∀ c,N<=c->ACalls prog 226 [.ag 2] [.dg 2 (D.sub I 4 2)] c (λx d=>c<=d->Bel d x->∀
 c,d<=c->ACalls prog 226 [.ag 2] [.dg 2 (D.sub I 6 2)] c (λd e=>c<=e->Bel e d->∀ c,e<=c->Q n s a b (x.cell 0) (x.cell
 1) (d.cell 0) (d.cell 1) (D.sl J 9 e1 O) c))):ACalls prog 164 [.pk,.int .i64,.str,.str,.int .i64,.dc,.dc,.dc,.dc,.bk 1] [PV.dg 9 I,PV.sv J 9 e1 O] N Q:=
  eE (H:=zCy) (by kernel_rfl) (by kernel_rfl) h
theorem zFB (N:Nat) (I:D) (Q:QT [.pk,.int .i64,.str,.str,.int .i64,.dc,.dc,.dc,.dc,.row 35 9]) (h :
Bel N I->∀ a,N<=a->ACalls prog 160 [Sh.pk,.int .i64,.str,.str,.int .i64,Sh.dc,Sh.dc,Sh.dc,Sh.dc,.row (OfNat.ofNat 35) 9] [.dg 9 I,.fn 101 []]
 a (λn s b c x d e f g h i=>a<=i->Bel i (D.ag g)->(g.length=g.length/\h=h)/\∀ a,i<=a->Q n s b c x d e f g
 h a)):ACalls prog 101 [.pk,.int .i64,.str,.str,.int .i64,.dc,.dc,.dc,.dc,.row 35 9] [PV.dg 9 I] N Q:=
  eE (H:=zEh) (by kernel_rfl) (by kernel_rfl) h
theorem zH8 (N:Nat) (n0:Int) (I:Option Addr) (e1:List D) (J:Nat) (Q:QT [.ag 9]) (h :
Bel N (D.sl I 9 e1 J)->∀ a,N<=a->Q (D.ag [D.lit (.int .i64 n0),D.lit (.string (bytes [])),D.lit (.string (bytes [])),D.lit (.int .i64 0),D.lit (.int
 .i64 0),D.sl Option.none 2 [] 0,D.lit (.int .i64 0),D.sl Option.none 2 [] 0,D.sl I 9 e1 J]) a):ACalls prog 273 [.ag 9] [PV.int .i64 n0,PV.sv I 9 e1 J] N Q:=
  eE (H:=zHQ) (by kernel_rfl) (by kernel_rfl) h
theorem wT (Q:QT [.pk,.int .i64,.str,.str,.int .i64,.dc,.dc,.dc,.dc,.row 35 9]) (N0:Nat) (n4:Int) (y0:D) (ai:Int) (aj ak:ByteArray) (al am:Int) (ao:Option Addr) (aq:List D) (au:Nat) (aw:Int) (ax:Option Addr) (ay:List D) (az:Nat) (a1:Option Addr) (a6:List D) (a7:Nat) (aa:Int) (ab ac:ByteArray) (ae:Int) (I J O U:D) (ah Y:Nat) (r3:List D) (q3:Nat) (N:Nat) (h :
∃ a b,∃ c:Nat,(y0.cell 8)=D.sl a 9 b c/\Br (decide (n4<(b.length:Int))) (∃ a b,∃ c:Nat,(y0.cell 8)=D.sl a 9 b c/\(0<=n4/\n4
 < (b.length:Int))/\∀ a,N<=a->ACalls prog 83 [Sh.pk,.int .i64,.str,.str,.int .i64,Sh.dc,Sh.dc,Sh.dc,Sh.dc,.row (OfNat.ofNat 35) 9] [.dg 9 (List.getD
 b n4.toNat default)] a (λn s b c x d e f g h i=>a<=i->Bel i (D.ag g)->(g.length=g.length/\h=h)/\∀ a j,
 i<=j->Fresh N0 j a [D.ag g,x,d,e,f,I,J,O,U,D.ag r3]->(ah=r3.length/\Y=q3)/\zB r3 [D.ag [D.lit (.int .i64
 n),D.lit (.string s),D.lit (.string b),D.lit (.int .i64 c),x,d,e,f,D.sl a 9 g h]] 136/\∀ (i:Nat),xT Q N0 (IntKind.i64.wrap
 (n4+1)) y0 ai aj ak al am ao aq au aw ax ay az a1 a6 a7 aa ab ac ae I J O U (r3++[D.ag [D.lit (.int .i64 n),
 D.lit (.string s),D.lit (.string b),D.lit (.int .i64 c),x,d,e,f,D.sl a 9 g h]]).length i (r3++[D.ag [D.lit (.int .i64 n),D.lit (.string
 s),D.lit (.string b),D.lit (.int .i64 c),x,d,e,f,D.sl a 9 g h]]) i j)) ((ah=r3.length/\Y=q3)/\∀ a,N<=a->Q aa ab
 ac ae I J O U r3 Y a)):xT Q N0 n4 y0 ai aj ak al am ao aq au aw ax ay az a1 a6 a7 aa ab ac ae I J O U ah Y r3 q3 N:=
  hE (H:=zA8) (by kernel_rfl) h
theorem rm (Q:QT [.ag 9]) (N0:Nat) (a1:Option Addr) (e1:List D) (c1:Nat) (n6 am:Int) (ao aq:ByteArray) (au aw:Int) (ax:Option Addr) (ay:List D) (az:Nat) (a6:Int) (a7:Option Addr) (a8:List D) (ba:Nat) (bb:Option Addr) (bc:List D) (bd:Nat) (ae:Int) (ah ai:ByteArray) (aj ak:Int) (I:Option Addr) (J:List D) (O:Nat) (al:Int) (U:Option Addr) (Y:List D) (aa ab ac:Nat) (r2:List D) (q2:Nat) (N:Nat) (h :
Br (decide (n6<(e1.length:Int))) ((0<=n6/\n6<(e1.length:Int))/\∀ b,N<=b->ACalls prog 83 [Sh.pk,.int .i64,.str,.str,.int .i64,Sh.dc,Sh.dc,
 Sh.dc,Sh.dc,.row (OfNat.ofNat 35) 9] [.dg 9 (List.getD e1 n6.toNat default)] b (λn s c d x e f g h i j=>b<=j->Bel j (D.ag h)->(h.length
 = h.length/\i=i)/\∀ a b,j<=b->Fresh N0 b a [D.ag h,x,e,f,g,D.sl I 2 J O,D.sl U 2 Y aa,D.ag r2]->(ab=r2.length
 /\ ac=q2)/\zB r2 [D.ag [D.lit (.int .i64 n),D.lit (.string s),D.lit (.string c),D.lit (.int .i64 d),x,e,f,g,D.sl a 9 h i]] 136/\∀ (j
 : Nat),wl Q N0 a1 e1 c1 (IntKind.i64.wrap (n6+1)) am ao aq au aw ax ay az a6 a7 a8 ba bb bc bd ae ah ai aj
 ak I J O al U Y aa (r2++[D.ag [D.lit (.int .i64 n),D.lit (.string s),D.lit (.string c),D.lit (.int .i64 d),x,e,f,g,D.sl
 a 9 h i]]).length j (r2++[D.ag [D.lit (.int .i64 n),D.lit (.string s),D.lit (.string c),D.lit (.int .i64 d),x,e,f,g,D.sl a 9 h i]]) j b))
 ((ab=r2.length/\ac=q2)/\(ab=r2.length/\ac=q2)/\(ab=r2.length/\ac=q2)/\∀ a b,N<=b->Fresh N0 b a [D.ag r2,D.sl I 2 J
 O,D.sl U 2 Y aa]->∀ c,b<=c->Q (D.ag [D.lit (.int .i64 ae),D.lit (.string ah),D.lit (.string ai),D.lit (.int .i64 aj),D.lit (.int
 .i64 ak),D.sl I 2 J O,D.lit (.int .i64 al),D.sl U 2 Y aa,D.sl a 9 r2 q2]) c)):wl Q N0 a1 e1 c1 n6 am ao aq au aw ax ay az a6 a7 a8 ba bb bc bd ae ah ai aj ak I J O al U Y aa ab ac r2 q2 N:=
  hE (H:=zAu) (by kernel_rfl) h
theorem qB (N:Nat) (I:D) (Q:QT [.pk,.int .i64,.str,.str,.int .i64,.dc,.dc,.dc,.dc,.row 35 9]) (h :
Bel N I->∃ a b,∃ c:Nat,(I.cell 8)=D.sl a 9 b c/\ye Q N 0 0 a b c (b.length:Int) 0 I 0 (bytes []) (bytes []) 0 0 Option.none []
 0 0 Option.none [] 0 Option.none [] 0 [] 0 N):ACalls prog 160 [.pk,.int .i64,.str,.str,.int .i64,.dc,.dc,.dc,.dc,.row 35 9] [.dg 9 I,.fn 101 []] N Q:=
  eE (H:=uv) (by kernel_rfl) (by kernel_rfl) h
theorem va (Q:QT [.pk,.int .i64,.str,.str,.int .i64,.dc,.dc,.dc,.dc,.row 35 9]) (N0:Nat) (m5 c5:Nat) (ax:Option Addr) (O:List D) (ay:Nat) (aw I:Int) (y0:D) (U:Int) (Y aa:ByteArray) (ab ac:Int) (ae:Option Addr) (ah:List D) (ai:Nat) (aj:Int) (ak:Option Addr) (al:List D) (am:Nat) (ao:Option Addr) (aq:List D) (au:Nat) (J:List D) (q2:Nat) (N:Nat) (h :
Br (decide (I<aw)) ((0<=I/\I<(O.length:Int))/\∀ b,N<=b->ACalls prog 101 [Sh.pk,.int .i64,.str,.str,.int .i64,Sh.dc,Sh.dc,Sh.dc,Sh.dc,
 .row (OfNat.ofNat 35) 9] [.dg 9 (List.getD O I.toNat default)] b (λn s c d x e f g h i j=>b<=j->Bel j (D.ag h)->(h.length=h.length
 /\ i=i)/\∀ a b,j<=b->Fresh N0 b a [D.ag h,x,e,f,g,D.ag J]->(m5=J.length/\c5=q2)/\zB J [D.ag [D.lit (.int .i64 n),D.lit (.string
 s),D.lit (.string c),D.lit (.int .i64 d),x,e,f,g,D.sl a 9 h i]] 136/\∀ (j:Nat),ye Q N0 (J++[D.ag [D.lit (.int .i64 n),
 D.lit (.string s),D.lit (.string c),D.lit (.int .i64 d),x,e,f,g,D.sl a 9 h i]]).length j ax O ay aw (IntKind.i64.wrap (I+1)) y0 U
 Y aa ab ac ae ah ai aj ak al am ao aq au (J++[D.ag [D.lit (.int .i64 n),D.lit (.string s),D.lit (.string c),D.lit (.int .i64
 d),x,e,f,g,D.sl a 9 h i]]) j b)) ((m5=J.length/\c5=q2)/\∀ a,ApA a J->Off [a] y0->∀ b,N<=b->wL b [a]->ACalls prog
 164 [Sh.pk,.int .i64,.str,.str,.int .i64,Sh.dc,Sh.dc,Sh.dc,Sh.dc,Sh.bk 1] [.dg 9 y0,.sv a 9 J c5] b (λc d e f g h i j k l=>
 b<=l->k=D.sl a 9 J c5/\Off [a] g/\Off [a] h/\Off [a] i/\Off [a] j/\(m5=J.length/\c5=q2)/\∀ a,l<=a->Q c d e
 f g h i j J c5 a))):ye Q N0 m5 c5 ax O ay aw I y0 U Y aa ab ac ae ah ai aj ak al am ao aq au J q2 N:=
  hE (H:=uv) (by kernel_rfl) h
end Go.Proofs.YtmfjakahanbnlaaGreatDoor
set_option maxRecDepth 100000
namespace Go.Proofs.YtmfjakahanbnlaaGreatDoor
open Go Go.Proofs Go.Proofs.Tryz
def zJA:Hint:=⟨[],[],[]⟩
def wt:Hint:=⟨[hc 2 [0,1,7,8]],[],[]⟩
def wK:Hint:=⟨[hc 5 [0,1,5,6]],[],[(12,hs 4 [{ i:=2,hard:=true,tr:=true }])]⟩
def zBz:Hint:=⟨[],[],[]⟩
def qA:Hint:=⟨[hc 6 [3,4,5,22,23,24]],[],[(3,hs 8 [ec 1 [16]]),(8,hs 3 [ec 1 [29]])]⟩
def zAQ:Hint:=⟨[],[],[(5,hs 10 [{ i:=8,hard:=true,tr:=true }])]⟩
def xd:Hint:=⟨[hc 3 [0,3,9,10,11],hc 11 [6,25,26,27] [(6,9,0)]],[],[]⟩
def tY:Hint:=⟨[hc 3 [5,12,13,14] [(5,9,0)]],[],[]⟩
def zCV:Hint:=⟨[hc 3 [0,1,5]],[],[]⟩
def zCz:Hint:=⟨[],[],[]⟩
def zCc:Hint:=⟨[],[],[]⟩
def zJi:Hint:=⟨[],[],[]⟩
def zGH:Hint:=⟨[],[],[]⟩
def ut:Hint:=⟨[hc 3 [0,1,5,6] [(5,9,0)]],[],[]⟩
def w5:Hint:=⟨[hc 3 [0,1,5,6] [(5,9,0)],hc 8 [1,5,7] [(5,9,0)]],[],[]⟩
def uF:Hint:=⟨[hc 6 [1,3,4,5,6],hc 10 [1,3,4,5,6,7,8]],[],[(8,hs 7 [ec 5 [32]])]⟩
def sT:Hint:=⟨[hc 5 [0,3,4]],[],[]⟩
def sm:Hint:=⟨[hc 3 [0,3]],[],[]⟩
def zJR:Hint:=⟨[],[],[]⟩
def yo (Q:QT [.row 9 0]) (N0:Nat) (n4:Int) (m5 c5:Nat) (U:Option Addr) (Y:List D) (aa:Nat) (ab ac:Int) (I:Option Addr) (J:List D) (O:Nat) (r1:List D) (q1:Nat) (N:Nat):Prop:=AT prog 116 [.row 9 0] Q N0 .ord (zC prog 116 6) ⟨an 3 (.pb 0 0 0 0::.int .i64 n4::.sb 1 0 0 m5 c5::an 16 (.sv U 9 Y aa::.int .i64 ab::.int .i64 ac::an 17 [])),[.var [.sv I 0 J O],.arr 9 0 r1 q1],N,none⟩
def yO (Q:QT [.sl 0]) (N0:Nat) (a0:Option Addr) (e0:List D) (c0:Nat) (O:Int) (a9:Option Addr) (U:List D) (Y:Nat) (I J:Int) (N:Nat):Prop:=AT prog 242 [.sl 0] Q N0 .ord (zC prog 242 3) ⟨.sv a0 0 e0 c0::an 2 (.int .i64 O::an 5 (.sv a9 0 U Y::.int .i64 I::.int .i64 J::an 24 [])),[],N,none⟩
def yH (Q:QT [.row 9 0]) (N0:Nat) (m5 c5:Nat) (I:Option Addr) (J:List D) (O:Nat) (U Y:Int) (r0:List D) (q0:Nat) (N:Nat):Prop:=AT prog 185 [.row 9 0] Q N0 .ord (zC prog 185 3) ⟨an 5 (.sb 0 0 0 m5 c5::an 6 (.sv I 0 J O::.int .i64 U::.int .i64 Y::an 13 [])),[.arr 9 0 r0 q0],N,none⟩
def vL (Q:QT [.str]) (N0:Nat) (I:ByteArray) (J:Option Addr) (e1:List D) (O:Nat) (U:Int) (N:Nat):Prop:=AT prog 244 [.str] Q N0 .ord (zC prog 244 3) ⟨.str I::.sv J 0 e1 O::an 3 (.int .i64 U::an 12 []),[],N,none⟩
def yB (Q:QT [.sl 0]) (N0:Nat) (a0:Option Addr) (e0:List D) (c0:Nat) (I:ByteArray) (J O:Nat) (U:Int) (r0:List D) (Y:Nat) (N:Nat):Prop:=AT prog 174 [.sl 0] Q N0 .ord (zC prog 174 3) ⟨.sv a0 0 e0 c0::.str I::an 3 (.sb 0 0 0 J O::.int .i64 U::an 21 []),[.arr 9 0 r0 Y],N,none⟩
def yG (Q:QT [.row 9 0]) (N0:Nat) (a0:Option Addr) (e0:List D) (c0:Nat) (I:Option Addr) (e1:List D) (J O U:Nat) (Y:Int) (r0:List D) (q0:Nat) (N:Nat):Prop:=AT prog 175 [.row 9 0] Q N0 .ord (zC prog 175 3) ⟨.sv a0 0 e0 c0::.sv I 0 e1 J::an 3 (.sb 0 0 0 O U::.int .i64 Y::an 43 []),[.arr 9 0 r0 q0],N,none⟩
def zl (Q:QT [.sl 0]) (N0:Nat) (a3:Option Addr) (I:List D) (J:Nat) (O:Int) (U Y:Nat) (n6:Int) (y0:D) (r1:List D) (q1:Nat) (N:Nat):Prop:=AT prog 109 [.sl 0] Q N0 .ord (zC prog 109 6) ⟨an 1 (.pb 0 0 0 0::an 1 (.sv a3 0 I J::.int .i64 O::.sb 1 0 0 U Y::.int .i64 n6::an 48 [])),[.vd y0 9,.arr 9 0 r1 q1],N,none⟩
def zY (Q:QT [.str]) (N0:Nat) (n0:Int) (I:Bool) (J:ByteArray) (N:Nat):Prop:=AT prog 188 [.str] Q N0 .ord (zC prog 188 5) ⟨.int .i64 n0::an 2 (.bool I::.str J::an 26 []),[],N,none⟩
def xK (Q:QT [.str]) (N0:Nat) (a0:Option Addr) (e0:List D) (c0:Nat) (I:Int) (N:Nat):Prop:=AT prog 282 [.str] Q N0 .ord (zC prog 282 3) ⟨.sv a0 0 e0 c0::an 2 (.int .i64 I::an 11 []),[],N,none⟩
def zZ (Q:QT [.sl 0]) (N0:Nat) (m6 c6:Nat) (I:Option Addr) (J:List D) (O:Nat) (U Y:Int) (r0:List D) (q0:Nat) (N:Nat):Prop:=AT prog 242 [.sl 0] Q N0 .ord (zC prog 242 11) ⟨an 6 (.sb 0 0 0 m6 c6::an 18 (.sv I 0 J O::.int .i64 U::.int .i64 Y::an 8 [])),[.arr 9 0 r0 q0],N,none⟩
def zn (Q:QT [.row 9 0]) (N0:Nat) (I:Option Addr) (e1:List D) (J O U:Nat) (Y:Int) (r0:List D) (q0:Nat) (N:Nat):Prop:=AT prog 175 [.row 9 0] Q N0 .ord (zC prog 175 8) ⟨an 1 (.sv I 0 e1 J::an 3 (.sb 0 0 0 O U::an 1 (.int .i64 Y::an 42 []))),[.arr 9 0 r0 q0],N,none⟩
def yU (Q:QT [.sl 0]) (N0:Nat) (a3:Option Addr) (I:List D) (J:Nat) (O:Int) (U Y:Nat) (n6:Int) (a7:Option Addr) (e7:List D) (c7:Nat) (n8:Int) (y0:D) (r1:List D) (q1:Nat) (N:Nat):Prop:=AT prog 109 [.sl 0] Q N0 .ord (zC prog 109 10) ⟨an 1 (.pb 0 0 0 0::an 1 (.sv a3 0 I J::.int .i64 O::.sb 1 0 0 U Y::.int .i64 n6::.sv a7 0 e7 c7::.int .i64 n8::an 46 [])),[.vd y0 9,.arr 9 0 r1 q1],N,none⟩
def zO (E:Env) (Q:QT [(Sh.bk 0),(Sh.sl 0),(Sh.sl 0)]) (N0:Nat) (U c0:Nat) (Y n6:Int) (r0:List D) (q0:Nat) (I:Option Addr) (J:List D) (O:Nat) (N:Nat):Prop:=AT prog 182 [(Sh.bk 0),(Sh.sl 0),(Sh.sl 0)] Q N0 (.io E [.arr 9 0 [] 0,.var [.sv none 0 [] 0]]) (zC prog 182 5) ⟨.sb 0 0 0 U c0::.fn 183 [.pb 1 0 0 0]::an 3 (.int .i64 Y::.int .i64 n6::an 35 []),[.arr 9 0 r0 q0,.var [.sv I 0 J O]],N,some (yu E 0 [.arr 9 0 [] 0,.var [.sv none 0 [] 0]],[])⟩
def zq (Q:QT [.int .i64]) (N0:Nat) (a0:Option Addr) (e0:List D) (c0:Nat) (J:Addr) (I:D) (O U:Int) (N:Nat):Prop:=AT prog 240 [.int .i64] Q N0 .ord (zC prog 240 2) ⟨.sv a0 0 e0 c0::.fn 183 [.pd J 0 I]::an 5 (.int .i64 O::.int .i64 U::an 10 []),[],N,none⟩
theorem zJS (N:Nat) (I:D) (Q:QT [.sl 0,.int .i64]) (h :
Bel N I->∃ n:Int,(I.cell 0)=D.lit (.int .i64 n)/\Br (n==6) (∃ a b,∃ c:Nat,(I.cell 8)=D.sl a 9 b c/\Br ((b.length:Int)==1) (∃ s,(I.cell
 1)=D.lit (.string s)/\(1=([D.lit (.string s)]).length/\1=1)/\(1=([D.lit (.string s)]).length/\1=1)/\∀ a b,N<=b->Fresh N b a [D.ag [D.lit
 (.string s)]]->∀ c,b<=c->Q a [D.lit (.string s)] 1 0 c) (∃ a:Int,(I.cell 0)=D.lit (.int .i64 a)/\Br (a==8) (∃ a b,∃ c:Nat,
 (I.cell 8)=D.sl a 9 b c/\Br ((b.length:Int)==2) (∃ a,(I.cell 1)=D.lit (.string a)/\(1=([D.lit (.string a)]).length/\1=1)/\(1 =
 ([D.lit (.string a)]).length/\1=1)/\∀ b c,N<=c->Fresh N c b [D.ag [D.lit (.string a)]]->∀ d,c<=d->Q b [D.lit (.string a)] 1 1
 d) (∃ a:Int,(I.cell 0)=D.lit (.int .i64 a)/\Br (a==9) (∃ a b,∃ c:Nat,(I.cell 8)=D.sl a 9 b c/\Br ((b.length:Int)==1)
 (∃ a,(I.cell 1)=D.lit (.string a)/\∃ b,(I.cell 2)=D.lit (.string b)/\(2=([D.lit (.string a),D.lit (.string b)]).length/\2=2)/\(2=([D.lit
 (.string a),D.lit (.string b)]).length/\2=2)/\∀ c d,N<=d->Fresh N d c [D.ag [D.lit (.string a),D.lit (.string b)]]->∀ e,d<=e
 -> Q c [D.lit (.string a),D.lit (.string b)] 2 0 e) (∀ a,N<=a->Q Option.none [] 0 (-1) a)) (∀ a,N<=a->Q Option.none [] 0 (-1) a))) (∃ a
 : Int,(I.cell 0)=D.lit (.int .i64 a)/\Br (a==9) (∃ a b,∃ c:Nat,(I.cell 8)=D.sl a 9 b c/\Br ((b.length:Int)==1) (∃ a,(I.cell
 1)=D.lit (.string a)/\∃ b,(I.cell 2)=D.lit (.string b)/\(2=([D.lit (.string a),D.lit (.string b)]).length/\2=2)/\(2=([D.lit (.string a),
 D.lit (.string b)]).length/\2=2)/\∀ c d,N<=d->Fresh N d c [D.ag [D.lit (.string a),D.lit (.string b)]]->∀ e,d<=e->Q c [D.lit
 (.string a),D.lit (.string b)] 2 0 e) (∀ a,N<=a->Q Option.none [] 0 (-1) a)) (∀ a,N<=a->Q Option.none [] 0 (-1) a)))) (∃ a:Int,
 (I.cell 0)=D.lit (.int .i64 a)/\Br (a==8) (∃ a b,∃ c:Nat,(I.cell 8)=D.sl a 9 b c/\Br ((b.length:Int)==2) (∃ a,(I.cell
 1)=D.lit (.string a)/\(1=([D.lit (.string a)]).length/\1=1)/\(1=([D.lit (.string a)]).length/\1=1)/\∀ b c,N<=c->Fresh N c b
 [D.ag [D.lit (.string a)]]->∀ d,c<=d->Q b [D.lit (.string a)] 1 1 d) (∃ a:Int,(I.cell 0)=D.lit (.int .i64 a)/\Br (a==9) (∃ a
 b,∃ c:Nat,(I.cell 8)=D.sl a 9 b c/\Br ((b.length:Int)==1) (∃ a,(I.cell 1)=D.lit (.string a)/\∃ b,(I.cell 2)=D.lit (.string
 b)/\(2=([D.lit (.string a),D.lit (.string b)]).length/\2=2)/\(2=([D.lit (.string a),D.lit (.string b)]).length/\2=2)/\∀ c d,N<=d
 -> Fresh N d c [D.ag [D.lit (.string a),D.lit (.string b)]]->∀ e,d<=e->Q c [D.lit (.string a),D.lit (.string b)] 2 0 e) (∀ a,
 N<=a->Q Option.none [] 0 (-1) a)) (∀ a,N<=a->Q Option.none [] 0 (-1) a))) (∃ a:Int,(I.cell 0)=D.lit (.int .i64 a)/\Br (a==9) (∃
 a b,∃ c:Nat,(I.cell 8)=D.sl a 9 b c/\Br ((b.length:Int)==1) (∃ a,(I.cell 1)=D.lit (.string a)/\∃ b,(I.cell 2)=D.lit
 (.string b)/\(2=([D.lit (.string a),D.lit (.string b)]).length/\2=2)/\(2=([D.lit (.string a),D.lit (.string b)]).length/\2=2)/\∀ c
 d,N<=d->Fresh N d c [D.ag [D.lit (.string a),D.lit (.string b)]]->∀ e,d<=e->Q c [D.lit (.string a),D.lit (.string b)]
 2 0 e) (∀ a,N<=a->Q Option.none [] 0 (-1) a)) (∀ a,N<=a->Q Option.none [] 0 (-1) a)))):ACalls prog 181 [.sl 0,.int .i64] [PV.dg 9 I] N Q:=
  eE (H:=zJA) (by kernel_rfl) (by kernel_rfl) h
theorem zEc (N:Nat) (I:D) (Q:QT [.row 9 0]) (h :
Bel N I->∃ n:Int,(I.cell 0)=D.lit (.int .i64 n)/\Br (n==1) (∃ s,(I.cell 1)=D.lit (.string s)/\(1=([D.lit (.string s)]).length/\1=1)/\∀ a,
 N<=a->Q [D.lit (.string s)] 1 a) (∀ b,N<=b->ACalls prog 181 [.sl 0,.int .i64] [.dg 9 I] b (λa c d e f=>b<=f->Bel f (D.sl a 0 c
 d)->∃ b g,∃ h:Nat,(I.cell 8)=D.sl b 9 g h/\yo Q N e 0 0 b g h (g.length:Int) 0 a c d [] 0 f))):ACalls prog 116 [.row 9 0] [PV.dg 9 I] N Q:=
  eE (H:=qA) (by kernel_rfl) (by kernel_rfl) h
theorem zAj (N:Nat) (n1:Int) (Q:QT [.row 9 0]) (h :
Bel N (D.sl Option.none 0 [] 0)->Br (decide (n1<0)) False (Br (decide (IntKind.i64.wrap (n1 - 0)>0)) (((0:Int)<=(0:Int)/\(0:Int)<=(0:Int)/\(0 :
 Int)<=(0:Int))/\(0<=IntKind.i64.wrap (n1 - 0)/\(IntKind.i64.wrap (n1 - 0)*16)<=140737488355328/\IntKind.i64.wrap (n1 - 0)<=140737488355328)/\∀ (c:Nat),
 ((0:Int)<=(0:Int)/\0<=(c:Int))/\0<=(List.replicate (IntKind.i64.wrap (n1 - 0)).toNat (D.lit (.string (bytes [])))).length/\(0=(List.take 0 (List.replicate
 (IntKind.i64.wrap (n1 - 0)).toNat (D.lit (.string (bytes []))))).length/\c=c)/\∀ a,N<=a->Q (List.take 0 (List.replicate (IntKind.i64.wrap (n1 - 0)).toNat
 (D.lit (.string (bytes []))))) c a) (∀ a,N<=a->Q [] 0 a))):ACalls prog 278 [.row 9 0] [PV.sv none 0 [] 0,PV.int .i64 n1] N Q:=
  eE (H:=zAQ) (by kernel_rfl) (by kernel_rfl) h
theorem qt (N:Nat) (a0:Option Addr) (e0:List D) (c0:Nat) (Q:QT [.sl 0]) (h :
Bel N (D.sl a0 0 e0 c0)->yO Q N a0 e0 c0 0 a0 e0 c0 (e0.length:Int) 0 N):ACalls prog 242 [.sl 0] [PV.sv a0 0 e0 c0] N Q:=
 eE (H:=xd) (by kernel_rfl) (by kernel_rfl) h
theorem zB8 (N:Nat) (a0:Option Addr) (e0:List D) (c0:Nat) (I:Option Addr) (e1:List D) (J:Nat) (Q:QT [.row 9 0]) (h :
Bel N (D.sl a0 0 e0 c0)->Bel N (D.sl I 0 e1 J)->(2=([D.sl a0 0 e0 c0,D.sl I 0 e1 J]).length/\2=2)/\∀ a,ApA a [D.sl a0 0 e0 c0,D.sl I 0 e1 J]->∀
 b,N<=b->wL b [a]->ACalls prog 242 [.sl 0] [.sv a 0 [D.sl a0 0 e0 c0,D.sl I 0 e1 J] 2] b (λc d e f=>b<=f->Off [a] (D.sl c 0 d
 e)/\(Bel f (D.sl c 0 d e)->yH Q N 0 0 c d e (d.length:Int) 0 [] 0 f))):ACalls prog 185 [.row 9 0] [PV.sv a0 0 e0 c0,PV.sv I 0 e1 J] N Q:=
  eE (H:=tY) (by kernel_rfl) (by kernel_rfl) h
theorem zJj (N:Nat) (O:ByteArray) (I:Option Addr) (e1:List D) (J:Nat) (Q:QT [.str]) (h :
Bel N (D.sl I 0 e1 J)->vL Q N O I e1 J 1 N):ACalls prog 244 [.str] [PV.str O,PV.sv I 0 e1 J] N Q:=
 eE (H:=zCV) (by kernel_rfl) (by kernel_rfl) h
theorem zCf (N:Nat) (a0:Option Addr) (e0:List D) (c0:Nat) (Q:QT [.str]) (h :
Bel N (D.sl a0 0 e0 c0)->∀ a,N<=a->ACalls prog 244 [.str] [.str (bytes [118]),.sv a0 0 e0 c0] a (λs b=>a<=b->∀ a,b<=a->Q s a) 
 ):ACalls prog 293 [.str] [PV.sv a0 0 e0 c0] N Q:=
  eE (H:=zCz) (by kernel_rfl) (by kernel_rfl) h
theorem zDJ (N:Nat) (n0:Int) (Q:QT [.str]) (h :
∀ a,N<=a->ACalls prog 246 [.str] [.int .i64 n0] a (λs b=>a<=b->∀ a,b<=a->Q s a)):ACalls prog 190 [.str] [PV.int .i64 n0] N Q:=
  eE (H:=zCc) (by kernel_rfl) (by kernel_rfl) h
theorem zJx (N:Nat) (I:ByteArray) (Q:QT [.ag 9]) (h :
∀ a,N<=a->Q (D.ag [D.lit (.int .i64 1),D.lit (.string I),D.lit (.string (bytes [])),D.lit (.int .i64 0),D.lit (.int .i64 0),D.sl Option.none 2 [] 0,
 D.lit (.int .i64 0),D.sl Option.none 2 [] 0,D.sl Option.none 9 [] 0]) a):ACalls prog 294 [.ag 9] [PV.str I] N Q:=
  eE (H:=zJi) (by kernel_rfl) (by kernel_rfl) h
theorem zF9 (N:Nat) (x0:D) (Q:QT [.sl 0,.int .i64]) (h :
Bel N x0->∃ n:Int,(x0.cell 0)=D.lit (.int .i64 n)/\Br (n==6) (∃ a b,∃ c:Nat,(x0.cell 8)=D.sl a 9 b c/\Br ((b.length:Int)==1) (∃ s,(x0.cell
 1)=D.lit (.string s)/\(1=([D.lit (.string s)]).length/\1=1)/\(1=([D.lit (.string s)]).length/\1=1)/\∀ a b,N<=b->Fresh N b a [D.ag [D.lit
 (.string s)]]->∀ c,b<=c->Q a [D.lit (.string s)] 1 0 c) (∃ a:Int,(x0.cell 0)=D.lit (.int .i64 a)/\Br (a==8) (∃ a b,∃ c:Nat,
 (x0.cell 8)=D.sl a 9 b c/\Br ((b.length:Int)==2) (∃ a,(x0.cell 1)=D.lit (.string a)/\(1=([D.lit (.string a)]).length/\1=1)/\(1 =
 ([D.lit (.string a)]).length/\1=1)/\∀ b c,N<=c->Fresh N c b [D.ag [D.lit (.string a)]]->∀ d,c<=d->Q b [D.lit (.string a)] 1 1
 d) (∃ a:Int,(x0.cell 0)=D.lit (.int .i64 a)/\Br (a==9) (∃ a b,∃ c:Nat,(x0.cell 8)=D.sl a 9 b c/\Br ((b.length:Int)==1)
 (∃ a,(x0.cell 1)=D.lit (.string a)/\∃ b,(x0.cell 2)=D.lit (.string b)/\(2=([D.lit (.string a),D.lit (.string b)]).length/\2=2)/\(2=([D.lit
 (.string a),D.lit (.string b)]).length/\2=2)/\∀ c d,N<=d->Fresh N d c [D.ag [D.lit (.string a),D.lit (.string b)]]->∀ e,d<=e
 -> Q c [D.lit (.string a),D.lit (.string b)] 2 0 e) ((0=0/\0=0)/\(0=0/\0=0)/\∀ a b,N<=b->Fresh N b a [D.ag []]->∀ c,b<=c
 -> Q a [] 0 (-1) c)) ((0=0/\0=0)/\(0=0/\0=0)/\∀ a b,N<=b->Fresh N b a [D.ag []]->∀ c,b<=c->Q a [] 0 (-1) c))) (∃ a
 : Int,(x0.cell 0)=D.lit (.int .i64 a)/\Br (a==9) (∃ a b,∃ c:Nat,(x0.cell 8)=D.sl a 9 b c/\Br ((b.length:Int)==1) (∃ a,(x0.cell
 1)=D.lit (.string a)/\∃ b,(x0.cell 2)=D.lit (.string b)/\(2=([D.lit (.string a),D.lit (.string b)]).length/\2=2)/\(2=([D.lit (.string a),
 D.lit (.string b)]).length/\2=2)/\∀ c d,N<=d->Fresh N d c [D.ag [D.lit (.string a),D.lit (.string b)]]->∀ e,d<=e->Q c [D.lit
 (.string a),D.lit (.string b)] 2 0 e) ((0=0/\0=0)/\(0=0/\0=0)/\∀ a b,N<=b->Fresh N b a [D.ag []]->∀ c,b<=c->Q
 a [] 0 (-1) c)) ((0=0/\0=0)/\(0=0/\0=0)/\∀ a b,N<=b->Fresh N b a [D.ag []]->∀ c,b<=c->Q a [] 0 (-1) c))))
 (∃ a:Int,(x0.cell 0)=D.lit (.int .i64 a)/\Br (a==8) (∃ a b,∃ c:Nat,(x0.cell 8)=D.sl a 9 b c/\Br ((b.length:Int)==2) (∃
 a,(x0.cell 1)=D.lit (.string a)/\(1=([D.lit (.string a)]).length/\1=1)/\(1=([D.lit (.string a)]).length/\1=1)/\∀ b c,N<=c->Fresh
 N c b [D.ag [D.lit (.string a)]]->∀ d,c<=d->Q b [D.lit (.string a)] 1 1 d) (∃ a:Int,(x0.cell 0)=D.lit (.int .i64 a)/\Br (a
 == 9) (∃ a b,∃ c:Nat,(x0.cell 8)=D.sl a 9 b c/\Br ((b.length:Int)==1) (∃ a,(x0.cell 1)=D.lit (.string a)/\∃ b,(x0.cell 2)
 = D.lit (.string b)/\(2=([D.lit (.string a),D.lit (.string b)]).length/\2=2)/\(2=([D.lit (.string a),D.lit (.string b)]).length/\2=2)/\∀
 c d,N<=d->Fresh N d c [D.ag [D.lit (.string a),D.lit (.string b)]]->∀ e,d<=e->Q c [D.lit (.string a),D.lit (.string b)]
 2 0 e) ((0=0/\0=0)/\(0=0/\0=0)/\∀ a b,N<=b->Fresh N b a [D.ag []]->∀ c,b<=c->Q a [] 0 (-1) c)) ((0=0/\0 =
 0)/\(0=0/\0=0)/\∀ a b,N<=b->Fresh N b a [D.ag []]->∀ c,b<=c->Q a [] 0 (-1) c))) (∃ a:Int,(x0.cell 0)=D.lit (.int
 .i64 a)/\Br (a==9) (∃ a b,∃ c:Nat,(x0.cell 8)=D.sl a 9 b c/\Br ((b.length:Int)==1) (∃ a,(x0.cell 1)=D.lit (.string a)
 /\ ∃ b,(x0.cell 2)=D.lit (.string b)/\(2=([D.lit (.string a),D.lit (.string b)]).length/\2=2)/\(2=([D.lit (.string a),D.lit (.string b)]).length
 /\ 2=2)/\∀ c d,N<=d->Fresh N d c [D.ag [D.lit (.string a),D.lit (.string b)]]->∀ e,d<=e->Q c [D.lit (.string a),D.lit
 (.string b)] 2 0 e) ((0=0/\0=0)/\(0=0/\0=0)/\∀ a b,N<=b->Fresh N b a [D.ag []]->∀ c,b<=c->Q a [] 0 (-1) c))
 ((0=0/\0=0)/\(0=0/\0=0)/\∀ a b,N<=b->Fresh N b a [D.ag []]->∀ c,b<=c->Q a [] 0 (-1) c)))):ACalls prog 172 [.sl 0,.int .i64] [PV.dg 9 x0] N Q:=
  eE (H:=zGH) (by kernel_rfl) (by kernel_rfl) h
theorem px (N:Nat) (a0:Option Addr) (e0:List D) (c0:Nat) (I:ByteArray) (Q:QT [.sl 0]) (h :
Bel N (D.sl a0 0 e0 c0)->yB Q N a0 e0 c0 I 0 0 0 [] 0 N):ACalls prog 174 [.sl 0] [PV.sv a0 0 e0 c0,PV.str I] N Q:=
 eE (H:=ut) (by kernel_rfl) (by kernel_rfl) h
theorem zBQ (N:Nat) (a0:Option Addr) (e0:List D) (c0:Nat) (I:Option Addr) (e1:List D) (J:Nat) (Q:QT [.row 9 0]) (h :
Bel N (D.sl a0 0 e0 c0)->Bel N (D.sl I 0 e1 J)->yG Q N a0 e0 c0 I e1 J 0 0 0 [] 0 N):ACalls prog 175 [.row 9 0] [PV.sv a0 0 e0 c0,PV.sv I 0 e1 J] N Q:=
 eE (H:=w5) (by kernel_rfl) (by kernel_rfl) h
theorem zEC (N:Nat) (I:D) (Q:QT [.sl 0]) (h :
Bel N I->∃ n:Int,(I.cell 0)=D.lit (.int .i64 n)/\Br (n==1) (∃ s,(I.cell 1)=D.lit (.string s)/\(1=([D.lit (.string s)]).length/\1=1)/\(1=([D.lit
 (.string s)]).length/\1=1)/\∀ a b,N<=b->Fresh N b a [D.ag [D.lit (.string s)]]->∀ c,b<=c->Q a [D.lit (.string s)] 1 c) (∀ a,N<=a ->
 ACalls prog 172 [.sl 0,.int .i64] [.dg 9 I] a (λb c d e f=>a<=f->Bel f (D.sl b 0 c d)->zl Q N b c d e 0 0 0 I []
 0 f))):ACalls prog 109 [.sl 0] [PV.dg 9 I] N Q:=
  eE (H:=uF) (by kernel_rfl) (by kernel_rfl) h
theorem sU (N:Nat) (n0:Int) (Q:QT [.str]) (h :
Br (n0==0) (∀ a,N<=a->Q (bytes [48]) a) (zY Q N n0 (decide (n0<0)) (bytes []) N)):ACalls prog 188 [.str] [PV.int .i64 n0] N Q:=
 eE (H:=sT) (by kernel_rfl) (by kernel_rfl) h
theorem zC9 (N:Nat) (a0:Option Addr) (e0:List D) (c0:Nat) (Q:QT [.str]) (h :
Bel N (D.sl a0 0 e0 c0)->xK Q N a0 e0 c0 1 N):ACalls prog 282 [.str] [PV.sv a0 0 e0 c0] N Q:=
 eE (H:=sm) (by kernel_rfl) (by kernel_rfl) h
theorem zCI (N:Nat) (I:ByteArray) (Q:QT [.ag 9]) (h :
∀ a,N<=a->Q (D.ag [D.lit (.int .i64 1),D.lit (.string I),D.lit (.string (bytes [])),D.lit (.int .i64 0),D.lit (.int .i64 0),D.sl Option.none 2 [] 0,
 D.lit (.int .i64 0),D.sl Option.none 2 [] 0,D.sl Option.none 9 [] 0]) a):ACalls prog 157 [.ag 9] [PV.str I] N Q:=
  eE (H:=zJR) (by kernel_rfl) (by kernel_rfl) h
theorem tw (Q:QT [.row 9 0]) (N0:Nat) (n4:Int) (m5 c5:Nat) (ab:Option Addr) (J:List D) (ac:Nat) (aa I:Int) (O:Option Addr) (U:List D) (Y:Nat) (r1:List D) (q1:Nat) (N:Nat) (h :
Br (decide (I<aa)) ((0<=I/\I<(J.length:Int))/\∀ b,N<=b->ACalls prog 116 [.row (OfNat.ofNat 9) 0] [.dg 9 (List.getD J I.toNat default)]
 b (λc d e=>b<=e->Bel e (D.ag c)->Br (I==n4) (∀ b,e<=b->BCalls prog 182 [Sh.bk 0,.sl 0,.sl 0] [.sb 0 0 0 c.length d,.fn 183 [.pb
 1 0 0 0]] [Bx.arr 9 0 c d,Bx.var [.sv O 0 U Y]] b (λ_ a c d e f g h=>b<=h->Bel h (D.sl a 0 c d)->Bel h (D.sl e
 0 f g)->(m5=r1.length/\c5=q1)/\∀ a,ApA a r1->(c.length=c.length/\d=d)/\∀ b,ApA b c->∀ i,h<=i->wL i [a,
 b]->ACalls prog 185 [.row (OfNat.ofNat 9) 0] [.sv a 0 r1 c5,.sv b 0 c d] i (λc d h=>i<=h->Off [a,b] (D.ag c)/\(Bel h
 (D.ag c)->yo Q N0 n4 c.length d ab J ac aa (IntKind.i64.wrap (I+1)) e f g c d h)))) ((m5=r1.length/\c5=q1) /\
 ∀ a,ApA a r1->(c.length=c.length/\d=d)/\∀ b,ApA b c->∀ f,e<=f->wL f [a,b]->ACalls prog 185 [.row (OfNat.ofNat 9) 0] [.sv
 a 0 r1 c5,.sv b 0 c d] f (λc d e=>f<=e->Off [a,b] (D.ag c)/\(Bel e (D.ag c)->yo Q N0 n4 c.length d ab
 J ac aa (IntKind.i64.wrap (I+1)) O U Y c d e))))) ((m5=r1.length/\c5=q1)/\∀ a,N<=a->Q r1 c5 a)):yo Q N0 n4 m5 c5 ab J ac aa I O U Y r1 q1 N:=
  hE (H:=qA) (by kernel_rfl) h
theorem wz (Q:QT [.sl 0]) (N0:Nat) (a0:Option Addr) (e0:List D) (c0:Nat) (O:Int) (a9:Option Addr) (U:List D) (Y:Nat) (J I:Int) (N:Nat) (h :
Br (decide (I<J)) ((0<=I/\I<(U.length:Int))/\∃ a b,∃ c:Nat,List.getD U I.toNat default=D.sl a 0 b c/\Br (decide (IntKind.i64.wrap (O
 + (b.length:Int))<0)) False (yO Q N0 a0 e0 c0 (IntKind.i64.wrap (O+(b.length:Int))) a9 U Y J (IntKind.i64.wrap (I+1)) N))
 (∀ a,N<=a->ACalls prog 278 [.row (OfNat.ofNat 9) 0] [.sv Option.none 0 [] 0,.int .i64 O] a (λb c d=>a<=d->Bel d (D.ag b)->zZ
 Q N0 b.length c a0 e0 c0 (e0.length:Int) 0 b c d))):yO Q N0 a0 e0 c0 O a9 U Y J I N:=
  hE (H:=xd) (by kernel_rfl) h
theorem uB (Q:QT [.row 9 0]) (N0:Nat) (m5 U:Nat) (Y:Option Addr) (J:List D) (aa:Nat) (O I:Int) (r0:List D) (q0:Nat) (N:Nat) (h :
Br (decide (I<O)) ((0<=I/\I<(J.length:Int))/\∃ s,List.getD J I.toNat default=D.lit (.string s)/\(m5=r0.length/\U=q0)/\∀ a,ApA
 a r0->∀ d,N<=d->wL d [a]->ACalls prog 184 [.bool] [.sv a 0 r0 U,.str s] d (λb a=>d<=a->Br (!b) ((m5=r0.length/\U=q0)/\zB
 r0 [D.lit (.string s)] 16/\∀ (c:Nat),yH Q N0 (r0++[D.lit (.string s)]).length c Y J aa O (IntKind.i64.wrap (I+1)) (r0++[D.lit
 (.string s)]) c a) (yH Q N0 m5 U Y J aa O (IntKind.i64.wrap (I+1)) r0 q0 a))) ((m5=r0.length/\U=q0)/\∀ a,N<=a->Q r0
 U a)):yH Q N0 m5 U Y J aa O I r0 q0 N:=
  hE (H:=tY) (by kernel_rfl) h
theorem zGN (Q:QT [.str]) (N0:Nat) (s0:ByteArray) (a1:Option Addr) (e1:List D) (c1:Nat) (n5:Int) (N:Nat) (h :
∀ a,N<=a->ACalls prog 190 [.str] [.int .i64 n5] a (fun s c=>a<=c->(s0.size+s.size:Nat)<=9223372036854775807/\∀ a,c<=a->ACalls prog
 184 [.bool] [.sv a1 0 e1 c1,.str (s0++s)] a (fun b c=>a<=c->Br (!b) (∀ a,c<=a->Q (s0++s) a) (vL Q N0 s0 a1 e1 c1 (IntKind.i64.wrap
 (n5+1)) c)))):vL Q N0 s0 a1 e1 c1 n5 N:=
  hE (H:=zCV) (by kernel_rfl) h
theorem vg (Q:QT [.sl 0]) (N0:Nat) (a0:Option Addr) (e0:List D) (c0:Nat) (Y:ByteArray) (O U:Nat) (I:Int) (r0:List D) (J:Nat) (N:Nat) (h :
Br (decide (I<(e0.length:Int))) ((0<=I/\I<(e0.length:Int))/\∃ s,List.getD e0 I.toNat default=D.lit (.string s)/\Br (!(ByteArray.toList s==ByteArray.toList
 Y)) ((0<=I/\I<(e0.length:Int))/\∃ a,List.getD e0 I.toNat default=D.lit (.string a)/\(O=r0.length/\U=J)/\zB r0 [D.lit (.string a)]
 16/\∀ (c:Nat),yB Q N0 a0 e0 c0 Y (r0++[D.lit (.string a)]).length c (IntKind.i64.wrap (I+1)) (r0++[D.lit (.string a)]) c N) (yB
 Q N0 a0 e0 c0 Y O U (IntKind.i64.wrap (I+1)) r0 J N)) ((O=r0.length/\U=J)/\(O=r0.length/\U=J)/\(O=r0.length/\U=J)/\∀ a b,N <=
 b->Fresh N0 b a [D.ag r0]->∀ c,b<=c->Q a r0 J c)):yB Q N0 a0 e0 c0 Y O U I r0 J N:=
  hE (H:=ut) (by kernel_rfl) h
theorem uQ (Q:QT [.row 9 0]) (N0:Nat) (a0:Option Addr) (e0:List D) (c0:Nat) (Y:Option Addr) (e1:List D) (c1 O J:Nat) (I:Int) (r0:List D) (U:Nat) (N:Nat) (h :
Br (decide (I<(e0.length:Int))) ((0<=I/\I<(e0.length:Int))/\∃ s,List.getD e0 I.toNat default=D.lit (.string s)/\(O=r0.length/\J=U)/\∀
 a,ApA a r0->∀ b,N<=b->wL b [a]->ACalls prog 234 [.int .i64] [.sv a 0 r0 J,.str s] b (λn a=>b<=a->Br (decide (n<0)) ((0<=I/\I
 < (e0.length:Int))/\∃ b,List.getD e0 I.toNat default=D.lit (.string b)/\(O=r0.length/\J=U)/\zB r0 [D.lit (.string b)] 16/\∀ (c:Nat),
 yG Q N0 a0 e0 c0 Y e1 c1 (r0++[D.lit (.string b)]).length c (IntKind.i64.wrap (I+1)) (r0++[D.lit (.string b)]) c a) (yG
 Q N0 a0 e0 c0 Y e1 c1 O J (IntKind.i64.wrap (I+1)) r0 U a))) (zn Q N0 Y e1 c1 O J 0 r0 U N)):yG Q N0 a0 e0 c0 Y e1 c1 O J I r0 U N:=
  hE (H:=w5) (by kernel_rfl) h
theorem t6 (Q:QT [.sl 0]) (N0:Nat) (a3:Option Addr) (e3:List D) (c3:Nat) (n4:Int) (O U:Nat) (I:Int) (Y:D) (r1:List D) (J:Nat) (N:Nat) (h :
∃ a b,∃ c:Nat,(Y.cell 8)=D.sl a 9 b c/\Br (decide (I<(b.length:Int))) (∃ a b,∃ c:Nat,(Y.cell 8)=D.sl a 9 b c/\(0<=I/\I
 < (b.length:Int))/\∀ a,N<=a->ACalls prog 109 [.sl 0] [.dg 9 (List.getD b I.toNat default)] a (λb c d e=>a<=e->Bel e (D.sl
 b 0 c d)->yU Q N0 a3 e3 c3 n4 O U I b c d 0 Y r1 J e)) ((O=r1.length/\U=J)/\(O=r1.length/\U=J)/\(O=r1.length
 /\ U=J)/\∀ a b,N<=b->Fresh N0 b a [D.ag r1]->∀ c,b<=c->Q a r1 J c)):zl Q N0 a3 e3 c3 n4 O U I Y r1 J N:=
  hE (H:=uF) (by kernel_rfl) h
theorem wu (Q:QT [.str]) (N0:Nat) (n0:Int) (J:Bool) (I:ByteArray) (N:Nat) (h :
Br (bne n0 0) ((10:Int)≠(0:Int)/\Br (decide (Int.tmod n0 10<0)) (1<=([D.lit (.int IntKind.u8 (IntKind.u8.wrap (IntKind.i64.wrap (48+IntKind.i64.wrap
 (0 - Int.tmod n0 10)))))]).length/\∃ a:List Int,List.take 1 [D.lit (.int IntKind.u8 (IntKind.u8.wrap (IntKind.i64.wrap (48+IntKind.i64.wrap (0 - Int.tmod
 n0 10)))))]=List.map (λn=>D.lit (.int IntKind.u8 n)) a/\(ByteArray.size (bytesOf a)+I.size:Nat)<=9223372036854775807/\(10:Int)≠(0:Int)/\zY
 Q N0 (IntKind.i64.wrap (Int.tdiv n0 10)) J (bytesOf a++I) N) (1<=([D.lit (.int IntKind.u8 (IntKind.u8.wrap (IntKind.i64.wrap (48+Int.tmod n0 10))))]).length
 /\ ∃ a:List Int,List.take 1 [D.lit (.int IntKind.u8 (IntKind.u8.wrap (IntKind.i64.wrap (48+Int.tmod n0 10))))]=List.map (λa=>D.lit (.int IntKind.u8
 a)) a/\(ByteArray.size (bytesOf a)+I.size:Nat)<=9223372036854775807/\(10:Int)≠(0:Int)/\zY Q N0 (IntKind.i64.wrap (Int.tdiv
 n0 10)) J (bytesOf a++I) N)) (Br J ((1+I.size:Nat)<=9223372036854775807/\∀ a,N<=a->Q (bytes [45]++I) a) (∀ a,N<=a->Q I a))):zY Q N0 n0 J I N:=
  hE (H:=sT) (by kernel_rfl) h
theorem zAR (Q:QT [.str]) (N0:Nat) (a0:Option Addr) (e0:List D) (c0:Nat) (I:Int) (N:Nat) (h :
∀ a,N<=a->ACalls prog 188 [.str] [.int .i64 I] a (λs b=>a<=b->(1+s.size:Nat)<=9223372036854775807/\∀ a,b<=a->ACalls prog 234
 [.int .i64] [.sv a0 0 e0 c0,.str (bytes [118]++s)] a (λn b=>a<=b->Br (decide (n<0)) (∀ a,b<=a->Q (bytes [118]++s) a) (xK
 Q N0 a0 e0 c0 (IntKind.i64.wrap (I+1)) b)))):xK Q N0 a0 e0 c0 I N:=
  hE (H:=sm) (by kernel_rfl) h
theorem uI (N:Nat) (m0 c0:Nat) (U:List D) (Y:Nat) (I:Option Addr) (J:List D) (O:Nat) (Q:QT [(Sh.bk 0),(Sh.sl 0),(Sh.sl 0)]) (h:∀ E:Env,
Bel N (D.sl Option.none 0 U Y)->Bel N (D.sl I 0 J O)->(m0=U.length/\c0=Y)/\∀ a,ApA a U->∀ b,ApA (Option.some b) [D.sl I 0
 J O]->∀ c,N<=c->wL c [a,Option.some b]->ACalls prog 240 [.int .i64] [.sv a 0 U c0,.fn 183 [.pd b 0 (D.sl I 0 J O)]] c (fun
 n a=>c<=a->Br (n==(-1)) (zN E [.arr 9 0 [] 0,.var [.sv none 0 [] 0]]/\(m0=U.length/\c0=Y)/\∀ b,a<=b->Q (D.lit (.int .i64 0)) Option.none
 U Y I J O b) (zO E Q N m0 c0 n (IntKind.i64.wrap (n+1)) U Y I J O a))):BCalls prog 182 [(Sh.bk 0),(Sh.sl 0),(Sh.sl 0)] [.sb 0 0 0 m0 c0,.fn 183 [.pb 1 0 0 0]] [.arr 9 0 U Y,.var [.sv I 0 J O]] N Q:=
  bE (H:=wK) (by kernel_rfl) (λE=>by kernel_rfl) h
theorem wV (Q:QT [.sl 0]) (N0:Nat) (Y c6:Nat) (aa:Option Addr) (J:List D) (ab:Nat) (O I:Int) (r0:List D) (U:Nat) (N:Nat) (h :
Br (decide (I<O)) ((0<=I/\I<(J.length:Int))/\∃ a b,∃ c:Nat,List.getD J I.toNat default=D.sl a 0 b c/\(Y=r0.length/\c6=U) /\
 zB r0 b 16/\∀ (a:Nat),zZ Q N0 (r0++b).length a aa J ab O (IntKind.i64.wrap (I+1)) (r0++b) a N) ((Y=r0.length
 /\ c6=U)/\(Y=r0.length/\c6=U)/\(Y=r0.length/\c6=U)/\∀ a b,N<=b->Fresh N0 b a [D.ag r0]->∀ c,b<=c->Q a r0 U c)):zZ Q N0 Y c6 aa J ab O I r0 U N:=
  hE (H:=xd) (by kernel_rfl) h
theorem uN (Q:QT [.row 9 0]) (N0:Nat) (Y:Option Addr) (e1:List D) (c1 O J:Nat) (I:Int) (r0:List D) (U:Nat) (N:Nat) (h :
Br (decide (I<(e1.length:Int))) ((0<=I/\I<(e1.length:Int))/\∃ s,List.getD e1 I.toNat default=D.lit (.string s)/\(O=r0.length/\J=U)/\∀
 a,ApA a r0->∀ b,N<=b->wL b [a]->ACalls prog 234 [.int .i64] [.sv a 0 r0 J,.str s] b (λn a=>b<=a->Br (decide (n<0)) ((0<=I/\I
 < (e1.length:Int))/\∃ b,List.getD e1 I.toNat default=D.lit (.string b)/\(O=r0.length/\J=U)/\zB r0 [D.lit (.string b)] 16/\∀ (c:Nat),
 zn Q N0 Y e1 c1 (r0++[D.lit (.string b)]).length c (IntKind.i64.wrap (I+1)) (r0++[D.lit (.string b)]) c a) (zn Q
 N0 Y e1 c1 O J (IntKind.i64.wrap (I+1)) r0 U a))) ((O=r0.length/\J=U)/\∀ a,N<=a->Q r0 J a)):zn Q N0 Y e1 c1 O J I r0 U N:=
  hE (H:=w5) (by kernel_rfl) h
theorem u4 (Q:QT [.sl 0]) (N0:Nat) (a3:Option Addr) (I:List D) (c3:Nat) (n4:Int) (m5 J:Nat) (n6:Int) (O:Option Addr) (U:List D) (Y:Nat) (n8:Int) (y0:D) (r1:List D) (q1:Nat) (N:Nat) (h :
Br (decide (n8<(I.length:Int))) (Br (n6==n4) ((0<=n8/\n8<(I.length:Int))/\∃ s,List.getD I n8.toNat default=D.lit (.string s)/\∀ b,N<=b
 -> ACalls prog 174 [.sl 0] [.sv O 0 U Y,.str s] b (λa c d e=>b<=e->Bel e (D.sl a 0 c d)->yU Q N0 a3 I c3 n4 m5 J n6 a c
 d (IntKind.i64.wrap (n8+1)) y0 r1 q1 e)) ((m5=r1.length/\J=q1)/\∀ a,ApA a r1->Off [a] (D.sl O 0 U Y)->∀ b,N<=b->wL b [a]->ACalls
 prog 175 [.row (OfNat.ofNat 9) 0] [.sv a 0 r1 J,.sv O 0 U Y] b (λc d e=>b<=e->Off [a] (D.ag c)/\(Bel e (D.ag c)->zl
 Q N0 a3 I c3 n4 c.length d (IntKind.i64.wrap (n6+1)) y0 c d e)))) ((m5=r1.length/\J=q1)/\∀ a,ApA a r1->Off [a] (D.sl O 0 U Y) ->
 ∀ b,N<=b->wL b [a]->ACalls prog 175 [.row (OfNat.ofNat 9) 0] [.sv a 0 r1 J,.sv O 0 U Y] b (λc d e=>b<=e->Off [a] (D.ag
 c)/\(Bel e (D.ag c)->zl Q N0 a3 I c3 n4 c.length d (IntKind.i64.wrap (n6+1)) y0 c d e)))):yU Q N0 a3 I c3 n4 m5 J n6 O U Y n8 y0 r1 q1 N:=
  hE (H:=uF) (by kernel_rfl) h
theorem uc (N:Nat) (a0:Option Addr) (e0:List D) (c0:Nat) (J:Addr) (I:D) (Q:QT [.int .i64]) (h :
Bel N (D.sl a0 0 e0 c0)->zq Q N a0 e0 c0 J I (e0.length:Int) 0 N):ACalls prog 240 [.int .i64] [.sv a0 0 e0 c0,.fn 183 [.pd J 0 I]] N Q:=
 eE (H:=wt) (by kernel_rfl) (by kernel_rfl) h
theorem xc (E:Env) (Q:QT [(Sh.bk 0),(Sh.sl 0),(Sh.sl 0)]) (N0:Nat) (Y c0:Nat) (I n6:Int) (r0:List D) (q0:Nat) (J:Option Addr) (O:List D) (U:Nat) (N:Nat) (h :
Br (decide (n6<(Y:Int))) ((0<=n6/\n6<(Y:Int)/\(0+n6.toNat:Nat)<r0.length)/\(0+n6.toNat:Nat)<r0.length/\∃ s,List.getD r0 (0+n6.toNat
 : Nat) default=D.lit (.string s)/\∀ a,ApA (Option.some a) [D.sl J 0 O U]->∀ c,N<=c->wL c [Option.some a]->ACalls prog 183 [.bool] [.str
 s,.pd a 0 (D.sl J 0 O U)] c (λb a=>c<=a->Br (!b) ((0<=I/\I<(Y:Int)/\(0+I.toNat:Nat)<r0.length)/\(0+I.toNat:Nat)
 < r0.length/\zO E Q N0 Y c0 (IntKind.i64.wrap (I+1)) (IntKind.i64.wrap (n6+1)) (List.set r0 (0+I.toNat:Nat) (D.lit (.string s)))
 q0 J O U a) (zO E Q N0 Y c0 I (IntKind.i64.wrap (n6+1)) r0 q0 J O U a))) ((0<=I/\I<=(Y:Int)/\(Y:Int)
 <= (c0:Int)/\I<(c0))/\((0+I.toNat:Nat)+(((Y:Int)).toNat - I.toNat:Nat):Nat)<=r0.length/\(0<=I/\I<=(c0:Int))/\I.toNat<=(List.take
 (0+I.toNat:Nat) r0++(List.replicate (((Y:Int)).toNat - I.toNat:Nat) (D.lit (.string (bytes [])))++List.drop ((0+I.toNat:Nat)+(((Y:Int)).toNat
 - I.toNat:Nat):Nat) r0)).length/\zN E [.arr 9 0 [] 0,.var [.sv none 0 [] 0]]/\(I.toNat=(List.take I.toNat (List.take (0+I.toNat:Nat) r0++(List.replicate
 (((Y:Int)).toNat - I.toNat:Nat) (D.lit (.string (bytes [])))++List.drop ((0+I.toNat:Nat)+(((Y:Int)).toNat - I.toNat:Nat):Nat) r0))).length
 /\ c0=q0)/\∀ a,N<=a->Q (D.lit (.int .i64 0)) Option.none (List.take I.toNat (List.take (0+I.toNat:Nat) r0++(List.replicate (((Y:Int)).toNat -
 I.toNat:Nat) (D.lit (.string (bytes [])))++List.drop ((0+I.toNat:Nat)+(((Y:Int)).toNat - I.toNat:Nat):Nat) r0))) q0 J O U a)):zO E Q N0 Y c0 I n6 r0 q0 J O U N:=
  hE (H:=wK) (by kernel_rfl) h
theorem xk (Q:QT [.int .i64]) (N0:Nat) (a0:Option Addr) (e0:List D) (c0:Nat) (J:Addr) (I:D) (U O:Int) (N:Nat) (h :
Br (decide (O<U)) ((0<=O/\O<(e0.length:Int))/\∃ s,List.getD e0 O.toNat default=D.lit (.string s)/\∀ a,N<=a->ACalls prog 183 [.bool] [.str
 s,.pd J 0 I] a (λb c=>a<=c->Br b (∀ a,c<=a->Q O a) (zq Q N0 a0 e0 c0 J I U (IntKind.i64.wrap (O
 + 1)) c))) (∀ a,N<=a->Q (-1) a)):zq Q N0 a0 e0 c0 J I U O N:=
  hE (H:=wt) (by kernel_rfl) h
theorem qr (N:Nat) (J:ByteArray) (O:Addr) (I:D) (Q:QT [.bool]) (h :
∃ a d,∃ c:Nat,I=D.sl a 0 d c/\∀ e,N<=e->ACalls prog 184 [.bool] [.sv a 0 d c,.str J] e (λb a=>e<=a->∀ c,a<=c->Q b c) 
 ):ACalls prog 183 [.bool] [.str J,.pd O 0 I] N Q:=
  eE (H:=zBz) (by kernel_rfl) (by kernel_rfl) h
end Go.Proofs.YtmfjakahanbnlaaGreatDoor
set_option maxRecDepth 100000
namespace Go.Proofs.YtmfjakahanbnlaaGreatDoor
open Go Go.Proofs Go.Proofs.Tryz
def sW:Hint:=⟨[hc 4 [2,3,5]],[],[(1,hs 51 [ec 31 [34,36],ec 39 [42,44]]),(6,[en 0,en 1,en 2,en 3,en 4,en 5,en 6,en 7,en 8,en 9,ec 10 [68,73],en 11])]⟩
def xD (Q:QT [.bool]) (N0:Nat) (I:Int) (J O:D) (N:Nat):Prop:=AT prog 41 [.bool] Q N0 .ord (zC prog 41 4) ⟨an 2 (.pb 0 0 0 0::.pb 1 0 0 0::an 1 (.int .i64 I::an 70 [])),[.vd J 9,.vd O 9],N,none⟩
theorem zDO (N:Nat) (x0 x1:D) (Q:QT [.bool]) (h :
Bel N x0->Bel N x1->∃ n:Int,(x0.cell 0)=D.lit (.int .i64 n)/\∃ d:Int,(x1.cell 0)=D.lit (.int .i64 d)/\Br (bne n d) (∀ a,N<=a->Q false
 a) (∃ s,(x0.cell 1)=D.lit (.string s)/\∃ d,(x1.cell 1)=D.lit (.string d)/\Br (!(ByteArray.toList s==ByteArray.toList d)) (∀ a,N<=a->Q false
 a) (∃ d,(x0.cell 2)=D.lit (.string d)/\∃ e,(x1.cell 2)=D.lit (.string e)/\Br (!(ByteArray.toList d==ByteArray.toList e)) (∀ a,N<=a
 -> Q false a) (∃ d:Int,(x0.cell 3)=D.lit (.int .i64 d)/\∃ e:Int,(x1.cell 3)=D.lit (.int .i64 e)/\Br (bne d e) (∀ a,N<=a->Q false
 a) (∀ d,N<=d->ACalls prog 100 [.bool] [.dg 2 (D.sub x0 4 2),.dg 2 (D.sub x1 4 2)] d (fun b e=>d<=e->Br (!b) (∀ a,e<=a->Q false a)
 (∀ b,e<=b->ACalls prog 100 [.bool] [.dg 2 (D.sub x0 6 2),.dg 2 (D.sub x1 6 2)] b (fun d e=>b<=e->Br (!d) (∀ a,e<=a->Q false
 a) (∃ a b,∃ c:Nat,(x0.cell 8)=D.sl a 9 b c/\∃ a c,∃ d:Nat,(x1.cell 8)=D.sl a 9 c d/\Br (bne (b.length:Int) (c.length:Int))
 (∀ a,e<=a->Q false a) (xD Q N 0 x0 x1 e)))))))))):ACalls prog 41 [.bool] [PV.dg 9 x0,PV.dg 9 x1] N Q:=
  eE (H:=sW) (by kernel_rfl) (by kernel_rfl) h
theorem u6 (Q:QT [.bool]) (N0:Nat) (I:Int) (J O:D) (N:Nat) (h :
∃ a d,∃ c:Nat,(J.cell 8)=D.sl a 9 d c/\Br (decide (I<(d.length:Int))) (∃ a c,∃ d:Nat,(J.cell 8)=D.sl a 9 c d/\(0<=I/\I
 < (c.length:Int))/\∃ a d,∃ e:Nat,(O.cell 8)=D.sl a 9 d e/\(0<=I/\I<(d.length:Int))/\∀ a,N<=a->ACalls prog 41 [.bool]
 [.dg 9 (List.getD c I.toNat default),.dg 9 (List.getD d I.toNat default)] a (λb c=>a<=c->Br (!b) (∀ a,c<=a->Q false a) (xD
 Q N0 (IntKind.i64.wrap (I+1)) J O c))) (∀ a,N<=a->Q true a)):xD Q N0 I J O N:=
  hE (H:=sW) (by kernel_rfl) h
end Go.Proofs.YtmfjakahanbnlaaGreatDoor
