/- Printed by gen.py: what the functions come to. -/
import Derived.Test.YtfajiphkncipoaaGreatDoorJh
set_option linter.unusedVariables false
set_option maxRecDepth 100000
namespace Go.Proofs.YtfajiphkncipoaaGreatDoor
open Go Go.Proofs Go.Proofs.Tryz
def uU:Hint:=⟨[hc 2 [0,1,7,8]],[],[]⟩
def zA2:Hint:=⟨[hc 2 [0,6,7]],[],[]⟩
def tY:Hint:=⟨[hc 3 [3,7,8,9]],[],[(5,hs 5 [ec 2 [14]])]⟩
def tK:Hint:=⟨[hc 3 [3,7,8,9]],[],[(5,hs 5 [ec 2 [14]])]⟩
def qq:Hint:=⟨[],[],[(1,[en 0,en 1,eh 2,en 3,en 4,en 5,en 6,en 7,en 8,en 9,en 10,en 11,en 12,en 13,en 14,en 15])]⟩
def zBd:Hint:=⟨[],[],[(1,hs 5 [ec 2 [4]])]⟩
def wy:Hint:=⟨[hc 2 [0,1,7,8]],[],[(4,hs 6 [ec 5 [15]])]⟩
def zDU:Hint:=⟨[],[],[(1,hs 11 [ec 2 [6]])]⟩
def zAa:Hint:=⟨[],[],[(1,hs 13 [ec 1 [3],ec 5 [7],ec 10 [12]])]⟩
def zFW:Hint:=⟨[],[],[(12,hs 9 [ec 6 [34]]),(14,hs 26 [ec 18 [56],ec 23 [61]])]⟩
def w7:Hint:=⟨[hc 4 [1,2,15,16,17]],[],[(7,hs 5 [ec 3 [27,28]])]⟩
def zIB:Hint:=⟨[],[],[(1,[en 0,en 1,en 2,en 3,ec 4 [7],en 5]),(14,[en 0,en 1,en 2,en 3,en 4,eh 5,en 6,eh 7]),(16,[en 0,en 1,en 2,en 3,en 4,en 5,en 6,en 7,en 8,eh 9,en 10,eh 11,en 12,eh 13,en 14,eh 15]),(17,hs 38 [ec 1 [54],ec 28 [79,81],ec 35 [86,88]])]⟩
def zBp:Hint:=⟨[],[],[(1,hs 5 [ec 2 [4]])]⟩
def wX:Hint:=⟨[hc 2 [0,1,7,8]],[],[(4,hs 6 [ec 5 [15]])]⟩
def zDd:Hint:=⟨[],[],[(1,hs 11 [ec 2 [6]])]⟩
def zGt:Hint:=⟨[],[],[(1,hs 3 [ec 1 [3]])]⟩
def zBH:Hint:=⟨[hc 4 [1,2,3,15,16,17]],[],[(1,hs 5 [ec 3 [10]]),(6,[en 0,en 1,en 2,en 4,ec 3 [22],ec 5 [21],en 6])]⟩
def zEd:Hint:=⟨[],[],[(1,hs 8 [ec 1 [5],ec 5 [8]])]⟩
def uT:Hint:=⟨[hc 3 [2,3,10,11,12]],[],[(5,[en 0,en 1,en 2,ec 3 [18],en 4,eh 5,en 6,eh 7])]⟩
def yd (Q:QT [.int .i64]) (N0:Nat) (a0:Option Addr) (e0:List D) (c0:Nat) (I:ByteArray) (J O:Int) (N:Nat):Prop:=AT prog 172 [.int .i64] Q N0 .ord (zE prog 172 2) ⟨.sv a0 0 e0 c0::.str I::an 5 (.int .i64 J::.int .i64 O::an 10 []),[],N,none⟩
def yx (Q:QT [.bool]) (N0:Nat) (I:ByteArray) (J O:Int) (N:Nat):Prop:=AT prog 165 [.bool] Q N0 .ord (zE prog 165 2) ⟨.str I::an 5 (.int .i64 J::.int .i64 O::an 40 []),[],N,none⟩
def yy (Q:QT [.int .i64]) (N0:Nat) (I:Int) (J:Option Addr) (O:List D) (U:Nat) (Y n9:Int) (N:Nat):Prop:=AT prog 187 [.int .i64] Q N0 .ord (zE prog 187 3) ⟨an 3 (.int .i64 I::an 3 (.sv J 2 O U::.int .i64 Y::.int .i64 n9::an 9 [])),[],N,none⟩
def ym (Q:QT [.int .i64]) (N0:Nat) (I:Int) (J:Option Addr) (O:List D) (U:Nat) (Y n9:Int) (N:Nat):Prop:=AT prog 188 [.int .i64] Q N0 .ord (zE prog 188 3) ⟨an 3 (.int .i64 I::an 3 (.sv J 2 O U::.int .i64 Y::.int .i64 n9::an 10 [])),[],N,none⟩
def vN (Q:QT [.ag 2]) (N0:Nat) (ae:Option Addr) (ah:List D) (ai:Nat) (aj ak I:Int) (J:Option Addr) (O:List D) (U:Nat) (Y:Int) (aa:Option Addr) (ab:List D) (ac:Nat) (N:Nat):Prop:=AT prog 103 [.ag 2] Q N0 .ord (zE prog 103 3) ⟨an 2 (.pb 0 0 0 0::.pb 1 0 0 0::an 6 (.sv ae 2 ah ai::.int .i64 aj::.int .i64 ak::an 12 [])),[.var [.int .i64 I,.sv J 2 O U],.var [.int .i64 Y,.sv aa 2 ab ac]],N,none⟩
def zU (Q:QT [.bool]) (N0:Nat) (a1:Option Addr) (e1:List D) (c1:Nat) (I:Option Addr) (J:List D) (O:Nat) (U Y:Int) (N:Nat):Prop:=AT prog 168 [.bool] Q N0 .ord (zE prog 168 4) ⟨an 1 (.sv a1 2 e1 c1::.fn 139 []::an 12 (.sv I 2 J O::.int .i64 U::.int .i64 Y::an 14 [])),[],N,none⟩
def wx (Q:QT [.bool]) (N0:Nat) (n1:Int) (I:Option Addr) (J:List D) (O:Nat) (U Y:Int) (y0:D) (N:Nat):Prop:=AT prog 59 [.bool] Q N0 .ord (zE prog 59 4) ⟨an 1 (.int .i64 n1::.fn 60 []::.pb 0 0 0 0::an 11 (.sv I 9 J O::.int .i64 U::.int .i64 Y::an 11 [])),[.vd y0 9],N,none⟩
def yi (Q:QT [.ag 2]) (N0:Nat) (ac:Option Addr) (ae:List D) (ah:Nat) (ai aj I:Int) (J:Option Addr) (O:List D) (U:Nat) (Y:Int) (aa ab:Nat) (r2:List D) (q2:Nat) (N:Nat):Prop:=AT prog 103 [.ag 2] Q N0 .ord (zE prog 103 3) ⟨an 2 (.pb 0 0 0 0::.pb 1 0 0 0::an 6 (.sv ac 2 ae ah::.int .i64 ai::.int .i64 aj::an 12 [])),[.var [.int .i64 I,.sv J 2 O U],.var [.int .i64 Y,.sb 2 2 0 aa ab],.arr 26 2 r2 q2],N,none⟩
def zw (Q:QT [.int .i64]) (N0:Nat) (a0:Option Addr) (e0:List D) (c0:Nat) (I:Addr) (J O:Int) (N:Nat):Prop:=AT prog 209 [.int .i64] Q N0 .ord (zE prog 209 2) ⟨.sv a0 2 e0 c0::.fn 204 [.pd I 0 (.fn 190 [])]::an 5 (.int .i64 J::.int .i64 O::an 10 []),[],N,none⟩
def zx (Q:QT [.int .i64]) (N0:Nat) (a0:Option Addr) (e0:List D) (c0:Nat) (I:Addr) (J O:Int) (N:Nat):Prop:=AT prog 163 [.int .i64] Q N0 .ord (zE prog 163 2) ⟨.sv a0 9 e0 c0::.fn 136 [.pd I 0 (.fn 99 [])]::an 5 (.int .i64 J::.int .i64 O::an 10 []),[],N,none⟩
theorem zH7 (N:Nat) (n0 n1 I:Int) (Q:QT [.bool]) (h :
Br (decide (n1<=n0)) (uP N (Q (decide (n0<=I)))) (uP N (Q false))):ACalls prog 43 [.bool] [PV.int .i64 n0,PV.int .i64 n1,PV.int .i64 I] N Q:=
 eE H0 h
theorem pW (N:Nat) (a0:Option Addr) (e0:List D) (c0:Nat) (I:ByteArray) (Q:QT [.int .i64]) (h :
Bel N (D.sl a0 0 e0 c0)->yd Q N a0 e0 c0 I (e0.length:Int) 0 N):ACalls prog 172 [.int .i64] [PV.sv a0 0 e0 c0,PV.str I] N Q:=
 eE uU h
theorem rM (N:Nat) (a0:Option Addr) (e0:List D) (c0:Nat) (I:ByteArray) (Q:QT [.bool]) (h :
Bel N (D.sl a0 0 e0 c0)->kI 172 [.sv a0 0 e0 c0,.str I] N (λn a=>uP a (Q (decide (n≥0))))):ACalls prog 147 [.bool] [PV.sv a0 0 e0 c0,PV.str I] N Q:=
 eE H0 h
theorem zHg (N:Nat) (I:ByteArray) (Q:QT [.bool]) (h :
yx Q N I (I.size:Int) 0 N):ACalls prog 165 [.bool] [PV.str I] N Q:=
 eE zA2 h
theorem zB1 (N:Nat) (I:D) (Q:QT [.int .i64]) (h :
Bel N I->∃ a b,∃ c:Nat,(I.cell 1)=D.sl a 2 b c/\yy Q N 1 a b c (b.length:Int) 0 N):ACalls prog 187 [.int .i64] [PV.dg 2 I] N Q:=
 eE tY h
theorem zA0 (N:Nat) (I:D) (Q:QT [.int .i64]) (h :
Bel N I->∃ a b,∃ c:Nat,(I.cell 1)=D.sl a 2 b c/\ym Q N 0 a b c (b.length:Int) 0 N):ACalls prog 188 [.int .i64] [PV.dg 2 I] N Q:=
 eE tK h
theorem qn (N:Nat) (I:D) (Q:QT [.bool]) (h :
Bel N I->∃ n:Int,(I.cell 0)=D.j n/\kB 43 [.j n,.j 1,.j 4] N (λb d=>Br b (∃ a b,∃ c:Nat,(I.cell 1)=D.sl a 2 b c/\∃ a:Int,
 (I.cell 0)=D.j a/\(0<=IntKind.i64.wrap (a - 1)/\IntKind.i64.wrap (a - 1)<4/\(0+(IntKind.i64.wrap (a - 1)).toNat:Nat)<4)/\(0 +
 (IntKind.i64.wrap (a - 1)).toNat:Nat)<4/\∃ c:Int,List.getD [D.j 0,D.j 0,D.j 2,D.j 1] (0+(IntKind.i64.wrap (a - 1)).toNat:Nat) default=D.j
 c/\uP d (Q ((b.length:Int)==c))) (uP d (Q false)))):ACalls prog 190 [.bool] [PV.dg 2 I] N Q:=
  eE qq h
theorem zAd (N:Nat) (I:D) (Q:QT [.bool]) (h :
Bel N I->kI 187 [.dg 2 I] N (λn a=>Br (decide (n<=30)) (kI 188 [.dg 2 I] a (λa c=>Br (decide (a<=8)) (kB 189 [.dg 2 I,.fn 190 []]
 c (λb a=>uP a (Q b))) (uP c (Q false)))) (uP a (Q false)))):ACalls prog 167 [.bool] [PV.dg 2 I] N Q:=
  eE zAa h
theorem zFQ (N:Nat) (I:ByteArray) (Q:QT [.int .i64]) (h :
Br (ByteArray.toList I==ByteArray.toList (bytes [43])) (uP N (Q 2)) (Br (ByteArray.toList I==ByteArray.toList (bytes [45])) (uP N (Q 2)) (Br
 (ByteArray.toList I==ByteArray.toList (bytes [42])) (uP N (Q 2)) (Br (ByteArray.toList I==ByteArray.toList (bytes [61])) (uP N (Q 2)) (Br
 (ByteArray.toList I==ByteArray.toList (bytes [60])) (uP N (Q 2)) (Br (ByteArray.toList I==ByteArray.toList (bytes [38])) (uP N (Q 2)) (Br
 (ByteArray.toList I==ByteArray.toList (bytes [124])) (uP N (Q 2)) (Br (ByteArray.toList I==ByteArray.toList (bytes [33])) (uP N (Q 1)) (uP N (Q
 0)))))))))):ACalls prog 164 [.int .i64] [PV.str I] N Q:=
  eE H0 h
theorem zJI (N:Nat) (I:D) (Q:QT [.int .i64]) (h :
Bel N I->∃ n:Int,(I.cell 0)=D.j n/\Br (n==4) (∃ s,(I.cell 1)=D.t s/\kI 164 [.str s] N (λa b=>uP b (Q a))) (Br (n==5) (uP N (Q
 3)) (Br (n==7) (uP N (Q 2)) (Br (n==8) (uP N (Q 2)) (Br (n==6) (uP N (Q 1)) (Br (n==9) (uP N (Q 1)) (Br (n==10) (uP N (Q 1)) (Br (n==11) (uP N (Q
 1)) (Br (n==12) (uP N (Q 1)) (Br (n==13) (uP N (Q 1)) (uP N (Q 0)))))))))))):ACalls prog 137 [.int .i64] [PV.dg 9 I] N Q:=
  eE H0 h
theorem zDr (N:Nat) (n0:Int) (Q:QT [.bool]) (h :
kB 43 [.j n0,.j 0,.j 10006] N (λb a=>uP a (Q b))):ACalls prog 166 [.bool] [PV.int .i64 n0] N Q:=
 eE H0 h
theorem zFZ (N:Nat) (I:D) (Q:QT [.bool]) (h :
Bel N I->∃ n:Int,(I.cell 0)=D.j n/\Br (n==1) (∃ s,(I.cell 1)=D.t s/\kB 165 [.str s] N (λb a=>uP a (Q b))) (Br (n==8) (∃ a,
 (I.cell 1)=D.t a/\kB 165 [.str a] N (λa b=>uP b (Q a))) (Br (n==2) (∃ a:Int,(I.cell 3)=D.j a/\kB 166 [.j a] N (λa b=>
 uP b (Q a))) (Br (n==3) (∃ a:Int,(I.cell 3)=D.j a/\kB 43 [.j a,.j 0,.j 1] N (λa b=>uP b (Q a))) (Br (n==4) (∃ a,(I.cell
 1)=D.t a/\kI 164 [.str a] N (λa b=>uP b (Q (decide (a>0))))) (Br (n==6) (∃ a,(I.cell 1)=D.t a/\kB 165 [.str a] N (λa b
 => Br a (kB 167 [.dg 2 (D.sub I 4 2)] b (λa b=>uP b (Q a))) (uP b (Q false)))) (Br (n==9) (∃ a,(I.cell 1)=D.t a/\kB 165 [.str
 a] N (λa b=>Br a (∃ a,(I.cell 2)=D.t a/\kB 165 [.str a] b (λa b=>Br a (∃ a,(I.cell 1)=D.t a/\∃ c,(I.cell 2) =
 D.t c/\Br (!(ByteArray.toList a==ByteArray.toList c)) (kB 167 [.dg 2 (D.sub I 4 2)] b (λa b=>Br a (kB 167 [.dg 2 (D.sub I 6 2)] b (fun
 a b=>uP b (Q a))) (uP b (Q false)))) (uP b (Q false))) (uP b (Q false)))) (uP b (Q false)))) (∃ a:Int,(I.cell 0)=D.j a/\kB 43 [.j
 a,.j 1,.j 13] N (λa b=>uP b (Q a)))))))))):ACalls prog 138 [.bool] [PV.dg 9 I] N Q:=
  eE zFW h
theorem zCm (N:Nat) (I J:D) (Q:QT [.bool]) (h :
Bel N I->Bel N J->∃ n:Int,(I.cell 0)=D.j n/\∃ d:Int,(J.cell 0)=D.j d/\Br (n==d) (∃ a d,∃ c:Nat,(I.cell 1)=D.sl a 2 d c /\
 ∃ e f,∃ g:Nat,(J.cell 1)=D.sl e 2 f g/\kB 168 [.sv a 2 d c,.sv e 2 f g,.fn 139 []] N (λb a=>uP a (Q b))) (uP N (Q
 false))):ACalls prog 139 [.bool] [PV.dg 2 I,PV.dg 2 J] N Q:=
  eE H0 h
theorem zHe (N:Nat) (I:D) (Q:QT [.bool]) (h :
Bel N I->∃ a d,∃ c:Nat,(I.cell 8)=D.sl a 9 d c/\kI 137 [.dg 9 I] N (λn a=>Br (bne (d.length:Int) n) (uP a (Q false)) (∃ c:Int,
 (I.cell 0)=D.j c/\∃ c:Int,(I.cell 0)=D.j c/\Br (c==1) (∃ s,(I.cell 1)=D.t s/\kB 138 [.dg 9 I] a (λb a=>Br b (∃ b,(I.cell
 1)=D.t b/\Br (ByteArray.toList b==ByteArray.toList s) (∃ b,(I.cell 2)=D.t b/\Br (ByteArray.toList b==ByteArray.toList b0) (∃ b:Int,
 (I.cell 3)=D.j b/\Br (b==0) (kB 139 [.dg 2 (D.sub I 4 2),.dg 2 (D.ag [D.j 0,D.sl none 2 [] 0])] a (λa b=>Br a (kB 139 [.dg 2 (D.sub I 6
 2),.dg 2 (D.ag [D.j 0,D.sl none 2 [] 0])] b (λa b=>uP b (Q a))) (uP b (Q false)))) (uP a (Q false))) (uP a (Q false))) (uP a (Q false))) (uP
 a (Q false)))) (Br (c==8) (∃ b,(I.cell 1)=D.t b/\kB 138 [.dg 9 I] a (λa c=>Br a (∃ a,(I.cell 1)=D.t a/\Br (ByteArray.toList
 a==ByteArray.toList b) (∃ a,(I.cell 2)=D.t a/\Br (ByteArray.toList a==ByteArray.toList b0) (∃ a:Int,(I.cell 3)=D.j a/\Br (a ==
 0) (kB 139 [.dg 2 (D.sub I 4 2),.dg 2 (D.ag [D.j 0,D.sl none 2 [] 0])] c (λa b=>Br a (kB 139 [.dg 2 (D.sub I 6 2),.dg 2 (D.ag [D.j 0,D.sl
 none 2 [] 0])] b (λa b=>uP b (Q a))) (uP b (Q false)))) (uP c (Q false))) (uP c (Q false))) (uP c (Q false))) (uP c (Q false)))) (Br
 (c==2) (∃ b:Int,(I.cell 3)=D.j b/\kB 138 [.dg 9 I] a (λa c=>Br a (∃ a,(I.cell 1)=D.t a/\Br (ByteArray.toList a ==
 ByteArray.toList b0) (∃ a,(I.cell 2)=D.t a/\Br (ByteArray.toList a==ByteArray.toList b0) (∃ a:Int,(I.cell 3)=D.j a/\Br (a==b) (kB
 139 [.dg 2 (D.sub I 4 2),.dg 2 (D.ag [D.j 0,D.sl none 2 [] 0])] c (λa b=>Br a (kB 139 [.dg 2 (D.sub I 6 2),.dg 2 (D.ag [D.j 0,D.sl none 2 []
 0])] b (λa b=>uP b (Q a))) (uP b (Q false)))) (uP c (Q false))) (uP c (Q false))) (uP c (Q false))) (uP c (Q false)))) (Br (c==3)
 (∃ b:Int,(I.cell 3)=D.j b/\kB 138 [.dg 9 I] a (λa c=>Br a (∃ a,(I.cell 1)=D.t a/\Br (ByteArray.toList a==ByteArray.toList
 b0) (∃ a,(I.cell 2)=D.t a/\Br (ByteArray.toList a==ByteArray.toList b0) (∃ a:Int,(I.cell 3)=D.j a/\Br (a==b) (kB 139 [.dg 2 (D.sub
 I 4 2),.dg 2 (D.ag [D.j 0,D.sl none 2 [] 0])] c (λa b=>Br a (kB 139 [.dg 2 (D.sub I 6 2),.dg 2 (D.ag [D.j 0,D.sl none 2 [] 0])] b (fun
 a b=>uP b (Q a))) (uP b (Q false)))) (uP c (Q false))) (uP c (Q false))) (uP c (Q false))) (uP c (Q false)))) (Br (c==4) (∃ b,
 (I.cell 1)=D.t b/\kB 138 [.dg 9 I] a (λa c=>Br a (∃ a,(I.cell 1)=D.t a/\Br (ByteArray.toList a==ByteArray.toList b) (∃
 a,(I.cell 2)=D.t a/\Br (ByteArray.toList a==ByteArray.toList b0) (∃ a:Int,(I.cell 3)=D.j a/\Br (a==0) (kB 139 [.dg 2 (D.sub I 4
 2),.dg 2 (D.ag [D.j 0,D.sl none 2 [] 0])] c (λa b=>Br a (kB 139 [.dg 2 (D.sub I 6 2),.dg 2 (D.ag [D.j 0,D.sl none 2 [] 0])] b (λa
 b=>uP b (Q a))) (uP b (Q false)))) (uP c (Q false))) (uP c (Q false))) (uP c (Q false))) (uP c (Q false)))) (Br (c==6) (∃ b,(I.cell
 1)=D.t b/\kB 138 [.dg 9 I] a (λa c=>Br a (∃ a,(I.cell 1)=D.t a/\Br (ByteArray.toList a==ByteArray.toList b) (∃ a,
 (I.cell 2)=D.t a/\Br (ByteArray.toList a==ByteArray.toList b0) (∃ a:Int,(I.cell 3)=D.j a/\Br (a==0) (kB 139 [.dg 2 (D.sub I 4 2),
 .dg 2 (D.ag [D.cell (D.sub I 4 2) 0,D.cell (D.sub I 4 2) 1])] c (λa b=>Br a (kB 139 [.dg 2 (D.sub I 6 2),.dg 2 (D.ag [D.j 0,D.sl none 2 []
 0])] b (λa b=>uP b (Q a))) (uP b (Q false)))) (uP c (Q false))) (uP c (Q false))) (uP c (Q false))) (uP c (Q false)))) (Br (c==9)
 (∃ b,(I.cell 1)=D.t b/\∃ c,(I.cell 2)=D.t c/\kB 138 [.dg 9 I] a (λa d=>Br a (∃ a,(I.cell 1)=D.t a/\Br
 (ByteArray.toList a==ByteArray.toList b) (∃ a,(I.cell 2)=D.t a/\Br (ByteArray.toList a==ByteArray.toList c) (∃ a:Int,(I.cell
 3)=D.j a/\Br (a==0) (kB 139 [.dg 2 (D.sub I 4 2),.dg 2 (D.ag [D.cell (D.sub I 4 2) 0,D.cell (D.sub I 4 2) 1])] d (λa b=>Br a (kB
 139 [.dg 2 (D.sub I 6 2),.dg 2 (D.ag [D.cell (D.sub I 6 2) 0,D.cell (D.sub I 6 2) 1])] b (λa b=>uP b (Q a))) (uP b (Q false)))) (uP d
 (Q false))) (uP d (Q false))) (uP d (Q false))) (uP d (Q false)))) (kB 138 [.dg 9 I] a (λa b=>Br a (∃ a,(I.cell 1)=D.t a/\Br
 (ByteArray.toList a==ByteArray.toList b0) (∃ a,(I.cell 2)=D.t a/\Br (ByteArray.toList a==ByteArray.toList b0) (∃ a:Int,(I.cell 3) =
 D.j a/\Br (a==0) (kB 139 [.dg 2 (D.sub I 4 2),.dg 2 (D.ag [D.j 0,D.sl none 2 [] 0])] b (λa b=>Br a (kB 139 [.dg 2 (D.sub I 6 2),.dg
 2 (D.ag [D.j 0,D.sl none 2 [] 0])] b (λa b=>uP b (Q a))) (uP b (Q false)))) (uP b (Q false))) (uP b (Q false))) (uP b (Q false))) (uP
 b (Q false))))))))))))):ACalls prog 99 [.bool] [PV.dg 9 I] N Q:=
  eE zIB h
theorem zHy (N:Nat) (I:D) (Q:QT [.bool]) (h :
Bel N I->kB 98 [.dg 9 I,.fn 99 []] N (λb a=>uP a (Q b))):ACalls prog 58 [.bool] [PV.dg 9 I] N Q:=
 eE zGt h
theorem zBg (N:Nat) (I:D) (n1:Int) (Q:QT [.bool]) (h :
Bel N I->kB 43 [.j n1,.j 0,.j 2] N (λb a=>uP a (Q b))):ACalls prog 60 [.bool] [PV.dg 9 I,PV.int .i64 n1] N Q:=
 eE H0 h
theorem sy (N:Nat) (x0:D) (n1:Int) (Q:QT [.int .i64]) (h :
Bel N x0->∃ n:Int,(x0.cell 0)=D.j n/\Br (n==10) (uP N (Q (IntKind.i64.wrap (n1+1)))) (Br (n==11) (uP N (Q (IntKind.i64.wrap (n1 - 1)))) (uP N
 (Q n1)))):ACalls prog 100 [.int .i64] [PV.dg 9 x0,PV.int .i64 n1] N Q:=
  eE H0 h
theorem zEv (N:Nat) (I:D) (n1:Int) (Q:QT [.bool]) (h :
Bel N I->kB 58 [.dg 9 I] N (λb a=>Br b (kB 59 [.dg 9 I,.j n1,.fn 60 []] a (λa b=>uP b (Q a))) (uP a (Q false)))):ACalls prog 32 [.bool] [PV.dg 9 I,PV.int .i64 n1] N Q:=
 eE zEd h
theorem zEY (N:Nat) (I:D) (Q:QT [.ag 2]) (h :
Bel N I->∃ n:Int,(I.cell 0)=D.j n/\∃ a b,∃ c:Nat,(I.cell 1)=D.sl a 2 b c/\vN Q N a b c (b.length:Int) 0 0 none [] 0 n
 none [] 0 N):ACalls prog 103 [.ag 2] [PV.dg 2 I] N Q:=
  eE uT h
theorem vg (Q:QT [.int .i64]) (N0:Nat) (a0:Option Addr) (e0:List D) (c0:Nat) (J:ByteArray) (O I:Int) (N:Nat) (h :
Br (decide (I<O)) ((0<=I/\I<(e0.length:Int))/\∃ s,List.getD e0 I.toNat default=D.t s/\Br (ByteArray.toList J==ByteArray.toList s) (uP
 N (Q I)) (yd Q N0 a0 e0 c0 J O (IntKind.i64.wrap (I+1)) N)) (uP N (Q (-1)))):yd Q N0 a0 e0 c0 J O I N:=
  hE uU h
theorem rz (Q:QT [.bool]) (N0:Nat) (J:ByteArray) (O I:Int) (N:Nat) (h :
Br (decide (I<O)) ((0<=I/\I<(J.size:Int))/\Br (decide ((UInt8.toNat (Array.getD (ByteArray.data J) I.toNat (OfNat.ofNat 0)):Int)≥97))
 ((0<=I/\I<(J.size:Int))/\Br (!(decide ((UInt8.toNat (Array.getD (ByteArray.data J) I.toNat (OfNat.ofNat 0)):Int)<=122))) (Br (I==0) (uP N (Q
 false)) ((0<=I/\I<(J.size:Int))/\Br (decide ((UInt8.toNat (Array.getD (ByteArray.data J) I.toNat (OfNat.ofNat 0)):Int)<48)) (uP N (Q false)) ((0
 <= I/\I<(J.size:Int))/\Br (decide ((UInt8.toNat (Array.getD (ByteArray.data J) I.toNat (OfNat.ofNat 0)):Int)>57)) (uP N (Q false))
 (yx Q N0 J O (IntKind.i64.wrap (I+1)) N)))) (yx Q N0 J O (IntKind.i64.wrap (I+1)) N)) (Br (I==0) (uP N (Q false)) ((0 <=
 I/\I<(J.size:Int))/\Br (decide ((UInt8.toNat (Array.getD (ByteArray.data J) I.toNat (OfNat.ofNat 0)):Int)<48)) (uP N (Q false)) ((0<=I/\I <
 (J.size:Int))/\Br (decide ((UInt8.toNat (Array.getD (ByteArray.data J) I.toNat (OfNat.ofNat 0)):Int)>57)) (uP N (Q false)) (yx Q N0 J O
 (IntKind.i64.wrap (I+1)) N))))) (kB 43 [.j (J.size:Int),.j 1,.j 4] N (λb c=>Br b ((5=5/\5=5)/\∀ a,ApA a [D.t (bytes [105,102]),D.t (bytes
 [108,101,116]),D.t (bytes [108,105,102,116]),D.t (bytes [114,101,99]),D.t (bytes [114,117,110])]->∀ b,c<=b->wU b [a]->ACalls prog 147
 [.bool] [.sv a 0 [D.t (bytes [105,102]),D.t (bytes [108,101,116]),D.t (bytes [108,105,102,116]),D.t (bytes [114,101,99]),D.t (bytes [114,117,
 110])] 5,.str J] b (λa c=>b<=c->uP c (Q (!a)))) (uP c (Q false))))):yx Q N0 J O I N:=
  hE zA2 h
theorem uZ (Q:QT [.int .i64]) (N0:Nat) (n3:Int) (a7:Option Addr) (e7:List D) (c7:Nat) (n8 n9:Int) (N:Nat) (h :
Br (decide (n9<n8)) ((0<=n9/\n9<(e7.length:Int))/\kI 187 [.dg 2 (List.getD e7 n9.toNat default)] N (fun n a=>yy Q N0
 (IntKind.i64.wrap (n3+n)) a7 e7 c7 n8 (IntKind.i64.wrap (n9+1)) a)) (uP N (Q n3))):yy Q N0 n3 a7 e7 c7 n8 n9 N:=
  hE tY h
theorem uA (Q:QT [.int .i64]) (N0:Nat) (J:Int) (Y:Option Addr) (O:List D) (c7:Nat) (U I:Int) (N:Nat) (h :
Br (decide (I<U)) ((0<=I/\I<(O.length:Int))/\kI 188 [.dg 2 (List.getD O I.toNat default)] N (λn a=>ym Q N0 (if n >
 J then n else J) Y O c7 U (IntKind.i64.wrap (I+1)) a)) (uP N (Q (IntKind.i64.wrap (J+1)))) ):ym Q N0 J Y O c7 U I N:=
  hE tK h
theorem zAV (N:Nat) (x0:D) (Q:QT [.bool]) (h :
Bel N x0->kB 190 [.dg 2 x0] N (fun b d=>Br b (∃ a b,∃ c:Nat,(x0.cell 1)=D.sl a 2 b c/\∀ e,ApA (Option.some e) [D.fn (OfNat.ofNat 190) []] ->
 Off [Option.some e] (D.sl a 2 b c)->∀ f,d<=f->wU f [Option.some e]->ACalls prog 203 [.bool] [.sv a 2 b c,.fn 204 [.pd e 0 (.fn 190 [])]] f
 (fun a b=>f<=b->uP b (Q (!a)))) (uP d (Q false)))):ACalls prog 189 [.bool] [.dg 2 x0,.fn 190 []] N Q:=
  eE zDU h
theorem ut (N:Nat) (a0:Option Addr) (e0:List D) (c0:Nat) (a1:Option Addr) (e1:List D) (c1:Nat) (Q:QT [.bool]) (h :
Bel N (D.sl a0 2 e0 c0)->Bel N (D.sl a1 2 e1 c1)->Br (bne (e0.length:Int) (e1.length:Int)) (uP N (Q false)) (zU Q N a1 e1 c1
 a0 e0 c0 (e0.length:Int) 0 N)):ACalls prog 168 [.bool] [.sv a0 2 e0 c0,.sv a1 2 e1 c1,.fn 139 []] N Q:=
  eE w7 h
theorem zAS (N:Nat) (I:D) (Q:QT [.bool]) (h :
Bel N I->kB 99 [.dg 9 I] N (λb d=>Br b (∃ a b,∃ c:Nat,(I.cell 8)=D.sl a 9 b c/\∀ e,ApA (Option.some e) [D.fn (OfNat.ofNat 99) []] ->
 Off [Option.some e] (D.sl a 9 b c)->∀ f,d<=f->wU f [Option.some e]->ACalls prog 135 [.bool] [.sv a 9 b c,.fn 136 [.pd e 0 (.fn 99 [])]] f (fun
 a b=>f<=b->uP b (Q (!a)))) (uP d (Q false)))):ACalls prog 98 [.bool] [.dg 9 I,.fn 99 []] N Q:=
  eE zDd h
theorem zCr (N:Nat) (x0:D) (n1:Int) (Q:QT [.bool]) (h :
Bel N x0->kB 60 [.dg 9 x0,.j n1] N (fun b d=>Br (!b) (uP d (Q false)) (∃ a b,∃ c:Nat,(x0.cell 8)=D.sl a 9 b c/\wx Q N n1 a b c
 (b.length:Int) 0 x0 d))):ACalls prog 59 [.bool] [.dg 9 x0,.int .i64 n1,.fn 60 []] N Q:=
  eE zBH h
theorem t7 (Q:QT [.ag 2]) (N0:Nat) (aj:Option Addr) (aa:List D) (ak:Nat) (ai J ab:Int) (ac:Option Addr) (ae:List D) (ah:Nat) (O:Int) (U:Option Addr) (I:List D) (Y:Nat) (N:Nat) (h :
Br (decide (J<ai)) ((0<=J/\J<(aa.length:Int))/\kA 2 103 [.dg 2 (List.getD aa J.toNat default)] N (λx a=>zQv U I Y [x] /\
 zB I [x] 32/\∀ (c:Nat),yi Q N0 aj aa ak ai (IntKind.i64.wrap (J+1)) ab ac ae ah O (I++[x]).length c (I
 ++ [x]) c a)) (uP N (Q (D.ag [D.j O,D.sl U 2 I Y])))):vN Q N0 aj aa ak ai J ab ac ae ah O U I Y N:=
  hE uT h
theorem vp (N:Nat) (a0:Option Addr) (e0:List D) (c0:Nat) (I:Addr) (Q:QT [.bool]) (h :
Bel N (D.sl a0 2 e0 c0)->kI 209 [.sv a0 2 e0 c0,.fn 204 [.pd I 0 (.fn 190 [])]] N (λn a=>uP a (Q (decide (n≥0))))):ACalls prog 203 [.bool] [.sv a0 2 e0 c0,.fn 204 [.pd I 0 (.fn 190 [])]] N Q:=
 eE H0 h
theorem xl (Q:QT [.bool]) (N0:Nat) (a1:Option Addr) (e1:List D) (c1:Nat) (U:Option Addr) (J:List D) (Y:Nat) (O I:Int) (N:Nat) (h :
Br (decide (I<O)) ((0<=I/\I<(J.length:Int))/\(0<=I/\I<(e1.length:Int))/\kB 139 [.dg 2 (List.getD J I.toNat default),.dg
 2 (List.getD e1 I.toNat default)] N (λb a=>Br (!b) (uP a (Q false)) (zU Q N0 a1 e1 c1 U J Y O (IntKind.i64.wrap (I +
 1)) a))) (uP N (Q true))):zU Q N0 a1 e1 c1 U J Y O I N:=
  hE w7 h
theorem vl (N:Nat) (a0:Option Addr) (e0:List D) (c0:Nat) (I:Addr) (Q:QT [.bool]) (h :
Bel N (D.sl a0 9 e0 c0)->kI 163 [.sv a0 9 e0 c0,.fn 136 [.pd I 0 (.fn 99 [])]] N (λn a=>uP a (Q (decide (n≥0))))):ACalls prog 135 [.bool] [.sv a0 9 e0 c0,.fn 136 [.pd I 0 (.fn 99 [])]] N Q:=
 eE H0 h
theorem rg (Q:QT [.bool]) (N0:Nat) (n1:Int) (U:Option Addr) (J:List D) (Y:Nat) (O I:Int) (y0:D) (N:Nat) (h :
Br (decide (I<O)) ((0<=I/\I<(J.length:Int))/\kI 100 [.dg 9 y0,.j n1] N (λn a=>kB 59 [.dg 9 (List.getD J I.toNat default),.j
 n,.fn 60 []] a (λb a=>Br (!b) (uP a (Q false)) (wx Q N0 n1 U J Y O (IntKind.i64.wrap (I+1)) y0 a)))) (uP N (Q true))):wx Q N0 n1 U J Y O I y0 N:=
  hE zBH h
theorem uB (Q:QT [.ag 2]) (N0:Nat) (a10:Option Addr) (e10:List D) (c10:Nat) (n11 n12 n0_0:Int) (a0_1:Option Addr) (e0_1:List D) (c0_1:Nat) (n1_0:Int) (m1_1 c1_1:Nat) (r2:List D) (q2:Nat) (N:Nat) (h :
Br (decide (n12<n11)) ((0<=n12/\n12<(e10.length:Int))/\kA 2 103 [.dg 2 (List.getD e10 n12.toNat default)] N (fun x a=>(m1_1=r2.length/\c1_1
 = q2)/\zB r2 [x] 32/\∀ (c:Nat),yi Q N0 a10 e10 c10 n11 (IntKind.i64.wrap (n12+1)) n0_0 a0_1 e0_1 c0_1 n1_0 (r2++[x]).length c
 (r2++[x]) c a)) (w3 (m1_1=r2.length/\c1_1=q2) (∀ a b,N<=b->Fresh N0 b a [D.ag r2]->uP b (Q (D.ag [D.j n1_0,D.sl a 2 r2 q2]))))):yi Q N0 a10 e10 c10 n11 n12 n0_0 a0_1 e0_1 c0_1 n1_0 m1_1 c1_1 r2 q2 N:=
  hE uT h
theorem uw (N:Nat) (a0:Option Addr) (e0:List D) (c0:Nat) (I:Addr) (Q:QT [.int .i64]) (h :
Bel N (D.sl a0 2 e0 c0)->zw Q N a0 e0 c0 I (e0.length:Int) 0 N):ACalls prog 209 [.int .i64] [.sv a0 2 e0 c0,.fn 204 [.pd I 0 (.fn 190 [])]] N Q:=
 eE wy h
theorem ux (N:Nat) (a0:Option Addr) (e0:List D) (c0:Nat) (I:Addr) (Q:QT [.int .i64]) (h :
Bel N (D.sl a0 9 e0 c0)->zx Q N a0 e0 c0 I (e0.length:Int) 0 N):ACalls prog 163 [.int .i64] [.sv a0 9 e0 c0,.fn 136 [.pd I 0 (.fn 99 [])]] N Q:=
 eE wX h
theorem xp (Q:QT [.int .i64]) (N0:Nat) (a0:Option Addr) (e0:List D) (c0:Nat) (I:Addr) (O J:Int) (N:Nat) (h :
Br (decide (J<O)) ((0<=J/\J<(e0.length:Int))/\kB 204 [.dg 2 (List.getD e0 J.toNat default),.pd I 0 (.fn 190 [])] N (λb a=>Br b (uP
 a (Q J)) (zw Q N0 a0 e0 c0 I O (IntKind.i64.wrap (J+1)) a))) (uP N (Q (-1)))):zw Q N0 a0 e0 c0 I O J N:=
  hE wy h
theorem xm (Q:QT [.int .i64]) (N0:Nat) (a0:Option Addr) (e0:List D) (c0:Nat) (I:Addr) (O J:Int) (N:Nat) (h :
Br (decide (J<O)) ((0<=J/\J<(e0.length:Int))/\kB 136 [.dg 9 (List.getD e0 J.toNat default),.pd I 0 (.fn 99 [])] N (λb a=>Br b (uP
 a (Q J)) (zx Q N0 a0 e0 c0 I O (IntKind.i64.wrap (J+1)) a))) (uP N (Q (-1)))):zx Q N0 a0 e0 c0 I O J N:=
  hE wX h
theorem ql (N:Nat) (I:D) (a1:Addr) (Q:QT [.bool]) (h :
Bel N I->kB 189 [.dg 2 I,.fn 190 []] N (λb a=>uP a (Q (!b)))):ACalls prog 204 [.bool] [.dg 2 I,.pd a1 0 (.fn 190 [])] N Q:=
 eE zBd h
theorem qm (N:Nat) (I:D) (a1:Addr) (Q:QT [.bool]) (h :
Bel N I->kB 98 [.dg 9 I,.fn 99 []] N (λb a=>uP a (Q (!b)))):ACalls prog 136 [.bool] [.dg 9 I,.pd a1 0 (.fn 99 [])] N Q:=
 eE zBp h
end Go.Proofs.YtfajiphkncipoaaGreatDoor
set_option maxRecDepth 100000
namespace Go.Proofs.YtfajiphkncipoaaGreatDoor
open Go Go.Proofs Go.Proofs.Tryz
def pJ:Hint:=⟨[hc 3 [1,3,4]],[],[(5,hs 9 [ec 6 [17]])]⟩
def qu:Hint:=⟨[hc 2 [0,1,5]],[],[]⟩
def zAq:Hint:=⟨[],[],[(1,hs 13 [ec 1 [3],ec 5 [7],ec 10 [12]])]⟩
def zBJ:Hint:=⟨[hc 3 [1,2,5]],[],[(5,hs 8 [ec 6 [23]])]⟩
def wD (Q:QT [.int .i64]) (N0:Nat) (I J:Int) (O:D) (N:Nat):Prop:=AT prog 201 [.int .i64] Q N0 .ord (zE prog 201 3) ⟨an 1 (.pb 0 0 0 0::an 1 (.int .i64 I::.int .i64 J::an 17 [])),[.vd O 9],N,none⟩
def xv (Q:QT [.int .i64]) (N0:Nat) (a0:Option Addr) (e0:List D) (c0:Nat) (I:ByteArray) (J:Int) (N:Nat):Prop:=AT prog 123 [.int .i64] Q N0 .ord (zE prog 123 2) ⟨.sv a0 0 e0 c0::.str I::an 3 (.int .i64 J::an 13 []),[],N,none⟩
def vE (Q:QT [.int .i64]) (N0:Nat) (n1 I:Int) (J:D) (N:Nat):Prop:=AT prog 200 [.int .i64] Q N0 .ord (zE prog 200 3) ⟨an 1 (.int .i64 n1::.pb 0 0 0 0::an 2 (.int .i64 I::an 21 [])),[.vd J 9],N,none⟩
theorem zFX (N:Nat) (I:D) (Q:QT [.int .i64]) (h :
Bel N I->wD Q N 0 0 I N):ACalls prog 201 [.int .i64] [PV.dg 9 I] N Q:=
 eE pJ h
theorem zFf (N:Nat) (a0:Option Addr) (e0:List D) (c0:Nat) (I:ByteArray) (Q:QT [.int .i64]) (h :
Bel N (D.sl a0 0 e0 c0)->xv Q N a0 e0 c0 I 0 N):ACalls prog 123 [.int .i64] [PV.sv a0 0 e0 c0,PV.str I] N Q:=
 eE qu h
theorem zAH (N:Nat) (x0:D) (Q:QT [.bool]) (h :
Bel N x0->kI 200 [.dg 9 x0,.j 80] N (fun n a=>Br (decide (n≥0)) (kI 201 [.dg 9 x0] a (fun a c=>Br (decide (a<=20)) (kB 38 [.dg 9 x0] c
 (fun b a=>uP a (Q b))) (uP c (Q false)))) (uP a (Q false)))):ACalls prog 185 [.bool] [PV.dg 9 x0] N Q:=
  eE zAq h
theorem zGh (N:Nat) (I:D) (n1:Int) (Q:QT [.int .i64]) (h :
Bel N I->vE Q N (IntKind.i64.wrap (n1 - 1)) 0 I N):ACalls prog 200 [.int .i64] [PV.dg 9 I,PV.int .i64 n1] N Q:=
 eE zBJ h
theorem su (Q:QT [.int .i64]) (N0:Nat) (n3 n4:Int) (y0:D) (N:Nat) (h :
∃ a b,∃ c:Nat,(y0.cell 8)=D.sl a 9 b c/\Br (decide (n4<(b.length:Int))) (∃ a b,∃ c:Nat,(y0.cell 8)=D.sl a 9 b c/\(0<=n4
 /\ n4<(b.length:Int))/\kI 201 [.dg 9 (List.getD b n4.toNat default)] N (fun n a=>kI 151 [.j n3,.j n] a (fun a b=>wD Q N0 a
 (IntKind.i64.wrap (n4+1)) y0 b))) (uP N (Q (IntKind.i64.wrap (n3+1))))):wD Q N0 n3 n4 y0 N:=
  hE pJ h
theorem s5 (Q:QT [.int .i64]) (N0:Nat) (a0:Option Addr) (e0:List D) (c0:Nat) (J:ByteArray) (I:Int) (N:Nat) (h :
Br (decide (I<(e0.length:Int))) ((0<=I/\I<(e0.length:Int))/\∃ s,List.getD e0 I.toNat default=D.t s/\Br (ByteArray.toList s ==
 ByteArray.toList J) (uP N (Q I)) (xv Q N0 a0 e0 c0 J (IntKind.i64.wrap (I+1)) N)) (uP N (Q (-1)))):xv Q N0 a0 e0 c0 J I N:=
  hE qu h
theorem rl (Q:QT [.int .i64]) (N0:Nat) (n1 n5:Int) (y0:D) (N:Nat) (h :
∃ a b,∃ c:Nat,(y0.cell 8)=D.sl a 9 b c/\Br (decide (n5<(b.length:Int))) (Br (decide (n1≥0)) (∃ a b,∃ c:Nat,(y0.cell 8)=D.sl
 a 9 b c/\(0<=n5/\n5<(b.length:Int))/\kI 200 [.dg 9 (List.getD b n5.toNat default),.j n1] N (fun n a=>vE Q N0 n
 (IntKind.i64.wrap (n5+1)) y0 a)) (uP N (Q n1))) (uP N (Q n1))):vE Q N0 n1 n5 y0 N:=
  hE zBJ h
end Go.Proofs.YtfajiphkncipoaaGreatDoor
