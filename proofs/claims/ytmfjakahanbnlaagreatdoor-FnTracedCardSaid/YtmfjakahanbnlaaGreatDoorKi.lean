/- Printed by gen.py: what the functions come to. -/
import Derived.Test.YtmfjakahanbnlaaGreatDoorJh
set_option linter.unusedVariables false
set_option maxRecDepth 100000
namespace Go.Proofs.YtmfjakahanbnlaaGreatDoor
open Go Go.Proofs Go.Proofs.Tryz
def zHb:Hint:=⟨[],[],[]⟩
def uE:Hint:=⟨[hc 2 [0,1,7,8]],[],[]⟩
def rD:Hint:=⟨[],[],[]⟩
def zAz:Hint:=⟨[hc 2 [0,6,7]],[],[]⟩
def tu:Hint:=⟨[hc 3 [3,7,8,9]],[],[(5,hs 5 [ec 2 [14]])]⟩
def uz:Hint:=⟨[hc 3 [3,7,8,9]],[],[(5,hs 5 [ec 2 [14]])]⟩
def qj:Hint:=⟨[],[],[(1,[en 0,en 1,eh 2,en 3,en 4,en 5,en 6,en 7,en 8,en 9,en 10,en 11,en 12,en 13,en 14,en 15])]⟩
def zBh:Hint:=⟨[],[],[(1,hs 5 [ec 2 [4]])]⟩
def wX:Hint:=⟨[hc 2 [0,1,7,8]],[],[(4,hs 6 [ec 5 [15]])]⟩
def ud:Hint:=⟨[],[],[]⟩
def zD7:Hint:=⟨[],[],[(1,hs 11 [ec 2 [6]])]⟩
def pp:Hint:=⟨[],[],[(1,hs 13 [ec 1 [3],ec 5 [7],ec 10 [12]])]⟩
def zF2:Hint:=⟨[],[],[]⟩
def zJg:Hint:=⟨[],[],[]⟩
def zEy:Hint:=⟨[],[],[]⟩
def zFU:Hint:=⟨[],[],[(12,hs 9 [ec 6 [34]]),(14,hs 26 [ec 18 [56],ec 23 [61]])]⟩
def wi:Hint:=⟨[hc 4 [1,2,15,16,17]],[],[(7,hs 5 [ec 3 [27,28]])]⟩
def zDI:Hint:=⟨[],[],[]⟩
def zHy:Hint:=⟨[],[],[(1,[en 0,en 1,en 2,en 3,ec 4 [7],en 5]),(14,[en 0,en 1,en 2,en 3,en 4,eh 5,en 6,eh 7]),(16,[en 0,en 1,en 2,en 3,en 4,en 5,en 6,en 7,en 8,eh 9,en 10,eh 11,en 12,eh 13,en 14,eh 15]),(17,hs 38 [ec 1 [54],ec 28 [79,81],ec 35 [86,88]])]⟩
def zCB:Hint:=⟨[],[],[(1,hs 5 [ec 2 [4]])]⟩
def ww:Hint:=⟨[hc 2 [0,1,7,8]],[],[(4,hs 6 [ec 5 [15]])]⟩
def ui:Hint:=⟨[],[],[]⟩
def zDv:Hint:=⟨[],[],[(1,hs 11 [ec 2 [6]])]⟩
def zIE:Hint:=⟨[],[],[(1,hs 3 [ec 1 [3]])]⟩
def zBT:Hint:=⟨[],[],[]⟩
def zCb:Hint:=⟨[],[],[]⟩
def zAa:Hint:=⟨[hc 4 [1,2,3,15,16,17]],[],[(1,hs 5 [ec 3 [10]]),(6,[en 0,en 1,en 2,en 4,ec 3 [22],ec 5 [21],en 6])]⟩
def zD4:Hint:=⟨[],[],[(1,hs 8 [ec 1 [5],ec 5 [8]])]⟩
def v6:Hint:=⟨[hc 3 [2,3,10,11,12]],[],[(5,[en 0,en 1,en 2,ec 3 [18],en 4,eh 5,en 6,eh 7])]⟩
def yV (Q:QT [.int .i64]) (N0:Nat) (a0:Option Addr) (e0:List D) (c0:Nat) (I:ByteArray) (J O:Int) (N:Nat):Prop:=AT prog 241 [.int .i64] Q N0 .ord (zC prog 241 2) ⟨.sv a0 0 e0 c0::.str I::an 5 (.int .i64 J::.int .i64 O::an 10 []),[],N,none⟩
def yj (Q:QT [.bool]) (N0:Nat) (I:ByteArray) (J O:Int) (N:Nat):Prop:=AT prog 237 [.bool] Q N0 .ord (zC prog 237 2) ⟨.str I::an 5 (.int .i64 J::.int .i64 O::an 40 []),[],N,none⟩
def yx (Q:QT [.int .i64]) (N0:Nat) (I:Int) (J:Option Addr) (O:List D) (U:Nat) (Y n9:Int) (N:Nat):Prop:=AT prog 275 [.int .i64] Q N0 .ord (zC prog 275 3) ⟨an 3 (.int .i64 I::an 3 (.sv J 2 O U::.int .i64 Y::.int .i64 n9::an 9 [])),[],N,none⟩
def yf (Q:QT [.int .i64]) (N0:Nat) (I:Int) (J:Option Addr) (O:List D) (U:Nat) (Y n9:Int) (N:Nat):Prop:=AT prog 276 [.int .i64] Q N0 .ord (zC prog 276 3) ⟨an 3 (.int .i64 I::an 3 (.sv J 2 O U::.int .i64 Y::.int .i64 n9::an 10 [])),[],N,none⟩
def vB (Q:QT [.ag 2]) (N0:Nat) (ae:Option Addr) (ah:List D) (ai:Nat) (aj ak I:Int) (J:Option Addr) (O:List D) (U:Nat) (Y:Int) (aa:Option Addr) (ab:List D) (ac:Nat) (N:Nat):Prop:=AT prog 226 [.ag 2] Q N0 .ord (zC prog 226 3) ⟨an 2 (.pb 0 0 0 0::.pb 1 0 0 0::an 6 (.sv ae 2 ah ai::.int .i64 aj::.int .i64 ak::an 12 [])),[.var [.int .i64 I,.sv J 2 O U],.var [.int .i64 Y,.sv aa 2 ab ac]],N,none⟩
def zQ (Q:QT [.bool]) (N0:Nat) (a1:Option Addr) (e1:List D) (c1:Nat) (I:Option Addr) (J:List D) (O:Nat) (U Y:Int) (N:Nat):Prop:=AT prog 180 [.bool] Q N0 .ord (zC prog 180 4) ⟨an 1 (.sv a1 2 e1 c1::.fn 113 []::an 12 (.sv I 2 J O::.int .i64 U::.int .i64 Y::an 14 [])),[],N,none⟩
def wa (Q:QT [.bool]) (N0:Nat) (n1:Int) (I:Option Addr) (J:List D) (O:Nat) (U Y:Int) (y0:D) (N:Nat):Prop:=AT prog 161 [.bool] Q N0 .ord (zC prog 161 4) ⟨an 1 (.int .i64 n1::.fn 162 []::.pb 0 0 0 0::an 11 (.sv I 9 J O::.int .i64 U::.int .i64 Y::an 11 [])),[.vd y0 9],N,none⟩
def yg (Q:QT [.ag 2]) (N0:Nat) (ac:Option Addr) (ae:List D) (ah:Nat) (ai aj I:Int) (J:Option Addr) (O:List D) (U:Nat) (Y:Int) (aa ab:Nat) (r2:List D) (q2:Nat) (N:Nat):Prop:=AT prog 226 [.ag 2] Q N0 .ord (zC prog 226 3) ⟨an 2 (.pb 0 0 0 0::.pb 1 0 0 0::an 6 (.sv ac 2 ae ah::.int .i64 ai::.int .i64 aj::an 12 [])),[.var [.int .i64 I,.sv J 2 O U],.var [.int .i64 Y,.sb 2 2 0 aa ab],.arr 32 2 r2 q2],N,none⟩
def zr (Q:QT [.int .i64]) (N0:Nat) (a0:Option Addr) (e0:List D) (c0:Nat) (I:Addr) (J O:Int) (N:Nat):Prop:=AT prog 296 [.int .i64] Q N0 .ord (zC prog 296 2) ⟨.sv a0 2 e0 c0::.fn 281 [.pd I 0 (.fn 277 [])]::an 5 (.int .i64 J::.int .i64 O::an 10 []),[],N,none⟩
def zt (Q:QT [.int .i64]) (N0:Nat) (a0:Option Addr) (e0:List D) (c0:Nat) (I:Addr) (J O:Int) (N:Nat):Prop:=AT prog 235 [.int .i64] Q N0 .ord (zC prog 235 2) ⟨.sv a0 9 e0 c0::.fn 177 [.pd I 0 (.fn 112 [])]::an 5 (.int .i64 J::.int .i64 O::an 10 []),[],N,none⟩
theorem zIj (N:Nat) (n0 n1 I:Int) (Q:QT [.bool]) (h :
Br (decide (n1<=n0)) (∀ a,N<=a->Q (decide (n0<=I)) a) (∀ a,N<=a->Q false a)):ACalls prog 65 [.bool] [PV.int .i64 n0,PV.int .i64 n1,PV.int .i64 I] N Q:=
 eE (H:=zHb) (by kernel_rfl) (by kernel_rfl) h
theorem pV (N:Nat) (a0:Option Addr) (e0:List D) (c0:Nat) (I:ByteArray) (Q:QT [.int .i64]) (h :
Bel N (D.sl a0 0 e0 c0)->yV Q N a0 e0 c0 I (e0.length:Int) 0 N):ACalls prog 241 [.int .i64] [PV.sv a0 0 e0 c0,PV.str I] N Q:=
 eE (H:=uE) (by kernel_rfl) (by kernel_rfl) h
theorem s9 (N:Nat) (a0:Option Addr) (e0:List D) (c0:Nat) (I:ByteArray) (Q:QT [.bool]) (h :
Bel N (D.sl a0 0 e0 c0)->∀ a,N<=a->ACalls prog 241 [.int .i64] [.sv a0 0 e0 c0,.str I] a (λn b=>a<=b->∀ a,b<=a->Q (decide (n ≥
 0)) a)):ACalls prog 184 [.bool] [PV.sv a0 0 e0 c0,PV.str I] N Q:=
  eE (H:=rD) (by kernel_rfl) (by kernel_rfl) h
theorem zHu (N:Nat) (I:ByteArray) (Q:QT [.bool]) (h :
yj Q N I (I.size:Int) 0 N):ACalls prog 237 [.bool] [PV.str I] N Q:=
 eE (H:=zAz) (by kernel_rfl) (by kernel_rfl) h
theorem zBe (N:Nat) (I:D) (Q:QT [.int .i64]) (h :
Bel N I->∃ a b,∃ c:Nat,(I.cell 1)=D.sl a 2 b c/\yx Q N 1 a b c (b.length:Int) 0 N):ACalls prog 275 [.int .i64] [PV.dg 2 I] N Q:=
 eE (H:=tu) (by kernel_rfl) (by kernel_rfl) h
theorem zAk (N:Nat) (I:D) (Q:QT [.int .i64]) (h :
Bel N I->∃ a b,∃ c:Nat,(I.cell 1)=D.sl a 2 b c/\yf Q N 0 a b c (b.length:Int) 0 N):ACalls prog 276 [.int .i64] [PV.dg 2 I] N Q:=
 eE (H:=uz) (by kernel_rfl) (by kernel_rfl) h
theorem qv (N:Nat) (I:D) (Q:QT [.bool]) (h :
Bel N I->∃ n:Int,(I.cell 0)=D.lit (.int .i64 n)/\∀ d,N<=d->ACalls prog 65 [.bool] [.int .i64 n,.int .i64 1,.int .i64 4] d (λb e=>d <=
 e->Br b (∃ a b,∃ c:Nat,(I.cell 1)=D.sl a 2 b c/\∃ a:Int,(I.cell 0)=D.lit (.int .i64 a)/\(0<=IntKind.i64.wrap (a - 1)/\IntKind.i64.wrap
 (a - 1)<4/\(0+(IntKind.i64.wrap (a - 1)).toNat:Nat)<4)/\(0+(IntKind.i64.wrap (a - 1)).toNat:Nat)<4/\∃ c:Int,List.getD [D.lit (.int .i64
 0),D.lit (.int .i64 0),D.lit (.int .i64 2),D.lit (.int .i64 1)] (0+(IntKind.i64.wrap (a - 1)).toNat:Nat) default=D.lit (.int .i64 c)/\∀ a,e <=
 a->Q ((b.length:Int)==c) a) (∀ a,e<=a->Q false a))):ACalls prog 277 [.bool] [PV.dg 2 I] N Q:=
  eE (H:=qj) (by kernel_rfl) (by kernel_rfl) h
theorem pi (N:Nat) (I:D) (Q:QT [.bool]) (h :
Bel N I->∀ a,N<=a->ACalls prog 275 [.int .i64] [.dg 2 I] a (λn c=>a<=c->Br (decide (n<=30)) (∀ a,c<=a->ACalls prog 276 [.int .i64]
 [.dg 2 I] a (λc d=>a<=d->Br (decide (c<=8)) (∀ a,d<=a->ACalls prog 251 [.bool] [.dg 2 I,.fn 277 []] a (λb c=>a<=c ->
 ∀ a,c<=a->Q b a)) (∀ a,d<=a->Q false a))) (∀ a,c<=a->Q false a))):ACalls prog 239 [.bool] [PV.dg 2 I] N Q:=
  eE (H:=pp) (by kernel_rfl) (by kernel_rfl) h
theorem zFd (N:Nat) (I:ByteArray) (Q:QT [.int .i64]) (h :
Br (ByteArray.toList I==ByteArray.toList (bytes [43])) (∀ a,N<=a->Q 2 a) (Br (ByteArray.toList I==ByteArray.toList (bytes [45])) (∀ a,N<=a ->
 Q 2 a) (Br (ByteArray.toList I==ByteArray.toList (bytes [42])) (∀ a,N<=a->Q 2 a) (Br (ByteArray.toList I==ByteArray.toList (bytes [61])) (∀ a,
 N<=a->Q 2 a) (Br (ByteArray.toList I==ByteArray.toList (bytes [60])) (∀ a,N<=a->Q 2 a) (Br (ByteArray.toList I==ByteArray.toList (bytes [38]))
 (∀ a,N<=a->Q 2 a) (Br (ByteArray.toList I==ByteArray.toList (bytes [124])) (∀ a,N<=a->Q 2 a) (Br (ByteArray.toList I==ByteArray.toList (bytes
 [33])) (∀ a,N<=a->Q 1 a) (∀ a,N<=a->Q 0 a))))))))):ACalls prog 236 [.int .i64] [PV.str I] N Q:=
  eE (H:=zF2) (by kernel_rfl) (by kernel_rfl) h
theorem zJf (N:Nat) (I:D) (Q:QT [.int .i64]) (h :
Bel N I->∃ n:Int,(I.cell 0)=D.lit (.int .i64 n)/\Br (n==4) (∃ s,(I.cell 1)=D.lit (.string s)/\∀ a,N<=a->ACalls prog 236 [.int .i64] [.str
 s] a (λb c=>a<=c->∀ a,c<=a->Q b a)) (Br (n==5) (∀ a,N<=a->Q 3 a) (Br (n==7) (∀ a,N<=a->Q 2 a) (Br (n==8) (∀
 a,N<=a->Q 2 a) (Br (n==6) (∀ a,N<=a->Q 1 a) (Br (n==9) (∀ a,N<=a->Q 1 a) (Br (n==10) (∀ a,N<=a->Q 1 a) (Br (n==11) (∀
 a,N<=a->Q 1 a) (Br (n==12) (∀ a,N<=a->Q 1 a) (Br (n==13) (∀ a,N<=a->Q 1 a) (∀ a,N<=a->Q 0 a))))))))))):ACalls prog 178 [.int .i64] [PV.dg 9 I] N Q:=
  eE (H:=zJg) (by kernel_rfl) (by kernel_rfl) h
theorem zFQ (N:Nat) (n0:Int) (Q:QT [.bool]) (h :
∀ a,N<=a->ACalls prog 65 [.bool] [.int .i64 n0,.int .i64 0,.int .i64 10006] a (λb c=>a<=c->∀ a,c<=a->Q b a)):ACalls prog 238 [.bool] [PV.int .i64 n0] N Q:=
  eE (H:=zEy) (by kernel_rfl) (by kernel_rfl) h
theorem zF3 (N:Nat) (I:D) (Q:QT [.bool]) (h :
Bel N I->∃ n:Int,(I.cell 0)=D.lit (.int .i64 n)/\Br (n==1) (∃ s,(I.cell 1)=D.lit (.string s)/\∀ a,N<=a->ACalls prog 237 [.bool] [.str s] a
 (λb c=>a<=c->∀ a,c<=a->Q b a)) (Br (n==8) (∃ a,(I.cell 1)=D.lit (.string a)/\∀ b,N<=b->ACalls prog 237 [.bool] [.str a]
 b (λa c=>b<=c->∀ b,c<=b->Q a b)) (Br (n==2) (∃ a:Int,(I.cell 3)=D.lit (.int .i64 a)/\∀ b,N<=b->ACalls prog 238
 [.bool] [.int .i64 a] b (λa c=>b<=c->∀ b,c<=b->Q a b)) (Br (n==3) (∃ a:Int,(I.cell 3)=D.lit (.int .i64 a)/\∀ b,N
 <= b->ACalls prog 65 [.bool] [.int .i64 a,.int .i64 0,.int .i64 1] b (λa c=>b<=c->∀ b,c<=b->Q a b)) (Br (n==4) (∃
 a,(I.cell 1)=D.lit (.string a)/\∀ b,N<=b->ACalls prog 236 [.int .i64] [.str a] b (λa c=>b<=c->∀ b,c<=b->Q (decide
 (a>0)) b)) (Br (n==6) (∃ a,(I.cell 1)=D.lit (.string a)/\∀ b,N<=b->ACalls prog 237 [.bool] [.str a] b (λa c=>b<=c
 -> Br a (∀ a,c<=a->ACalls prog 239 [.bool] [.dg 2 (D.sub I 4 2)] a (λb c=>a<=c->∀ a,c<=a->Q b a)) (∀ a,c
 <= a->Q false a))) (Br (n==9) (∃ a,(I.cell 1)=D.lit (.string a)/\∀ b,N<=b->ACalls prog 237 [.bool] [.str a] b (λa c=>b
 <= c->Br a (∃ a,(I.cell 2)=D.lit (.string a)/\∀ b,c<=b->ACalls prog 237 [.bool] [.str a] b (λa c=>b<=c->Br a (∃
 a,(I.cell 1)=D.lit (.string a)/\∃ b,(I.cell 2)=D.lit (.string b)/\Br (!(ByteArray.toList a==ByteArray.toList b)) (∀ a,c<=a->ACalls
 prog 239 [.bool] [.dg 2 (D.sub I 4 2)] a (λb c=>a<=c->Br b (∀ a,c<=a->ACalls prog 239 [.bool] [.dg 2 (D.sub I 6 2)] a (fun
 b c=>a<=c->∀ a,c<=a->Q b a)) (∀ a,c<=a->Q false a))) (∀ a,c<=a->Q false a)) (∀ a,c<=a ->
 Q false a))) (∀ a,c<=a->Q false a))) (∃ a:Int,(I.cell 0)=D.lit (.int .i64 a)/\∀ b,N<=b->ACalls prog 65 [.bool] [.int .i64 a,
 .int .i64 1,.int .i64 13] b (λa c=>b<=c->∀ b,c<=b->Q a b))))))))):ACalls prog 179 [.bool] [PV.dg 9 I] N Q:=
  eE (H:=zFU) (by kernel_rfl) (by kernel_rfl) h
theorem zCs (N:Nat) (I J:D) (Q:QT [.bool]) (h :
Bel N I->Bel N J->∃ n:Int,(I.cell 0)=D.lit (.int .i64 n)/\∃ d:Int,(J.cell 0)=D.lit (.int .i64 d)/\Br (n==d) (∃ a d,∃ c:Nat,(I.cell
 1)=D.sl a 2 d c/\∃ e f,∃ g:Nat,(J.cell 1)=D.sl e 2 f g/\∀ h,N<=h->ACalls prog 180 [.bool] [.sv a 2 d c,.sv e 2 f g,.fn
 113 []] h (λb a=>h<=a->∀ c,a<=c->Q b c)) (∀ a,N<=a->Q false a)):ACalls prog 113 [.bool] [PV.dg 2 I,PV.dg 2 J] N Q:=
  eE (H:=zDI) (by kernel_rfl) (by kernel_rfl) h
theorem zHd (N:Nat) (I:D) (Q:QT [.bool]) (h :
Bel N I->∃ a d,∃ c:Nat,(I.cell 8)=D.sl a 9 d c/\∀ a,N<=a->ACalls prog 178 [.int .i64] [.dg 9 I] a (λn c=>a<=c->Br (bne (d.length
 : Int) n) (∀ a,c<=a->Q false a) (∃ a:Int,(I.cell 0)=D.lit (.int .i64 a)/\∃ a:Int,(I.cell 0)=D.lit (.int .i64 a)/\Br (a==1) (∃
 s,(I.cell 1)=D.lit (.string s)/\∀ a,c<=a->ACalls prog 179 [.bool] [.dg 9 I] a (λb c=>a<=c->Br b (∃ a,(I.cell 1)=D.lit (.string
 a)/\Br (ByteArray.toList a==ByteArray.toList s) (∃ a,(I.cell 2)=D.lit (.string a)/\Br (ByteArray.toList a==ByteArray.toList (bytes [])) (∃ a
 : Int,(I.cell 3)=D.lit (.int .i64 a)/\Br (a==0) (∀ a,c<=a->ACalls prog 113 [.bool] [.dg 2 (D.sub I 4 2),.dg 2 (D.ag [D.lit (.int .i64 0),D.sl
 Option.none 2 [] 0])] a (λb c=>a<=c->Br b (∀ a,c<=a->ACalls prog 113 [.bool] [.dg 2 (D.sub I 6 2),.dg 2 (D.ag [D.lit (.int .i64 0),
 D.sl Option.none 2 [] 0])] a (λb c=>a<=c->∀ a,c<=a->Q b a)) (∀ a,c<=a->Q false a))) (∀ a,c<=a->Q false
 a)) (∀ a,c<=a->Q false a)) (∀ a,c<=a->Q false a)) (∀ a,c<=a->Q false a))) (Br (a==8) (∃ a,(I.cell 1)=D.lit
 (.string a)/\∀ b,c<=b->ACalls prog 179 [.bool] [.dg 9 I] b (λc d=>b<=d->Br c (∃ b,(I.cell 1)=D.lit (.string b)/\Br
 (ByteArray.toList b==ByteArray.toList a) (∃ a,(I.cell 2)=D.lit (.string a)/\Br (ByteArray.toList a==ByteArray.toList (bytes [])) (∃ a:Int,
 (I.cell 3)=D.lit (.int .i64 a)/\Br (a==0) (∀ a,d<=a->ACalls prog 113 [.bool] [.dg 2 (D.sub I 4 2),.dg 2 (D.ag [D.lit (.int .i64 0),D.sl
 Option.none 2 [] 0])] a (λb c=>a<=c->Br b (∀ a,c<=a->ACalls prog 113 [.bool] [.dg 2 (D.sub I 6 2),.dg 2 (D.ag [D.lit (.int .i64
 0),D.sl Option.none 2 [] 0])] a (λb c=>a<=c->∀ a,c<=a->Q b a)) (∀ a,c<=a->Q false a))) (∀ a,d<=a
 -> Q false a)) (∀ a,d<=a->Q false a)) (∀ a,d<=a->Q false a)) (∀ a,d<=a->Q false a))) (Br (a==2) (∃ a:Int,
 (I.cell 3)=D.lit (.int .i64 a)/\∀ b,c<=b->ACalls prog 179 [.bool] [.dg 9 I] b (λc d=>b<=d->Br c (∃ b,(I.cell 1)=D.lit
 (.string b)/\Br (ByteArray.toList b==ByteArray.toList (bytes [])) (∃ b,(I.cell 2)=D.lit (.string b)/\Br (ByteArray.toList b==ByteArray.toList
 (bytes [])) (∃ b:Int,(I.cell 3)=D.lit (.int .i64 b)/\Br (b==a) (∀ a,d<=a->ACalls prog 113 [.bool] [.dg 2 (D.sub I 4 2),.dg 2 (D.ag
 [D.lit (.int .i64 0),D.sl Option.none 2 [] 0])] a (λb c=>a<=c->Br b (∀ a,c<=a->ACalls prog 113 [.bool] [.dg 2 (D.sub I 6 2),
 .dg 2 (D.ag [D.lit (.int .i64 0),D.sl Option.none 2 [] 0])] a (λb c=>a<=c->∀ a,c<=a->Q b a)) (∀ a,c<=a->Q false
 a))) (∀ a,d<=a->Q false a)) (∀ a,d<=a->Q false a)) (∀ a,d<=a->Q false a)) (∀ a,d<=a->Q false a)))
 (Br (a==3) (∃ a:Int,(I.cell 3)=D.lit (.int .i64 a)/\∀ b,c<=b->ACalls prog 179 [.bool] [.dg 9 I] b (λc d=>b<=d->Br
 c (∃ b,(I.cell 1)=D.lit (.string b)/\Br (ByteArray.toList b==ByteArray.toList (bytes [])) (∃ b,(I.cell 2)=D.lit (.string b)/\Br (ByteArray.toList
 b==ByteArray.toList (bytes [])) (∃ b:Int,(I.cell 3)=D.lit (.int .i64 b)/\Br (b==a) (∀ a,d<=a->ACalls prog 113 [.bool] [.dg 2 (D.sub
 I 4 2),.dg 2 (D.ag [D.lit (.int .i64 0),D.sl Option.none 2 [] 0])] a (λb c=>a<=c->Br b (∀ a,c<=a->ACalls prog 113 [.bool]
 [.dg 2 (D.sub I 6 2),.dg 2 (D.ag [D.lit (.int .i64 0),D.sl Option.none 2 [] 0])] a (λb c=>a<=c->∀ a,c<=a->Q b a)) (∀ a,
 c<=a->Q false a))) (∀ a,d<=a->Q false a)) (∀ a,d<=a->Q false a)) (∀ a,d<=a->Q false a)) (∀ a,d<=a
 -> Q false a))) (Br (a==4) (∃ a,(I.cell 1)=D.lit (.string a)/\∀ b,c<=b->ACalls prog 179 [.bool] [.dg 9 I] b (λc d=>b
 <= d->Br c (∃ b,(I.cell 1)=D.lit (.string b)/\Br (ByteArray.toList b==ByteArray.toList a) (∃ a,(I.cell 2)=D.lit (.string a) /\
 Br (ByteArray.toList a==ByteArray.toList (bytes [])) (∃ a:Int,(I.cell 3)=D.lit (.int .i64 a)/\Br (a==0) (∀ a,d<=a->ACalls prog 113
 [.bool] [.dg 2 (D.sub I 4 2),.dg 2 (D.ag [D.lit (.int .i64 0),D.sl Option.none 2 [] 0])] a (λb c=>a<=c->Br b (∀ a,c<=a->ACalls
 prog 113 [.bool] [.dg 2 (D.sub I 6 2),.dg 2 (D.ag [D.lit (.int .i64 0),D.sl Option.none 2 [] 0])] a (λb c=>a<=c->∀ a,c<=a->Q
 b a)) (∀ a,c<=a->Q false a))) (∀ a,d<=a->Q false a)) (∀ a,d<=a->Q false a)) (∀ a,d<=a->Q false a))
 (∀ a,d<=a->Q false a))) (Br (a==6) (∃ a,(I.cell 1)=D.lit (.string a)/\∀ b,c<=b->ACalls prog 179 [.bool] [.dg 9 I] b
 (λc d=>b<=d->Br c (∃ b,(I.cell 1)=D.lit (.string b)/\Br (ByteArray.toList b==ByteArray.toList a) (∃ a,(I.cell 2) =
 D.lit (.string a)/\Br (ByteArray.toList a==ByteArray.toList (bytes [])) (∃ a:Int,(I.cell 3)=D.lit (.int .i64 a)/\Br (a==0) (∀ a,d
 <= a->ACalls prog 113 [.bool] [.dg 2 (D.sub I 4 2),.dg 2 (D.ag [D.cell (D.sub I 4 2) 0,D.cell (D.sub I 4 2) 1])] a (λb c=>a<=c->Br
 b (∀ a,c<=a->ACalls prog 113 [.bool] [.dg 2 (D.sub I 6 2),.dg 2 (D.ag [D.lit (.int .i64 0),D.sl Option.none 2 [] 0])] a (λb c=>a
 <= c->∀ a,c<=a->Q b a)) (∀ a,c<=a->Q false a))) (∀ a,d<=a->Q false a)) (∀ a,d<=a->Q false a)) (∀
 a,d<=a->Q false a)) (∀ a,d<=a->Q false a))) (Br (a==9) (∃ a,(I.cell 1)=D.lit (.string a)/\∃ b,(I.cell 2)=D.lit
 (.string b)/\∀ d,c<=d->ACalls prog 179 [.bool] [.dg 9 I] d (λc e=>d<=e->Br c (∃ c,(I.cell 1)=D.lit (.string c)
 /\ Br (ByteArray.toList c==ByteArray.toList a) (∃ a,(I.cell 2)=D.lit (.string a)/\Br (ByteArray.toList a==ByteArray.toList b) (∃ a :
 Int,(I.cell 3)=D.lit (.int .i64 a)/\Br (a==0) (∀ a,e<=a->ACalls prog 113 [.bool] [.dg 2 (D.sub I 4 2),.dg 2 (D.ag [D.cell (D.sub I 4
 2) 0,D.cell (D.sub I 4 2) 1])] a (λb c=>a<=c->Br b (∀ a,c<=a->ACalls prog 113 [.bool] [.dg 2 (D.sub I 6 2),.dg 2 (D.ag [D.cell
 (D.sub I 6 2) 0,D.cell (D.sub I 6 2) 1])] a (λb c=>a<=c->∀ a,c<=a->Q b a)) (∀ a,c<=a->Q false a))) (∀ a,
 e<=a->Q false a)) (∀ a,e<=a->Q false a)) (∀ a,e<=a->Q false a)) (∀ a,e<=a->Q false a))) (∀ a,c<=a
 -> ACalls prog 179 [.bool] [.dg 9 I] a (λb c=>a<=c->Br b (∃ a,(I.cell 1)=D.lit (.string a)/\Br (ByteArray.toList a==ByteArray.toList
 (bytes [])) (∃ a,(I.cell 2)=D.lit (.string a)/\Br (ByteArray.toList a==ByteArray.toList (bytes [])) (∃ a:Int,(I.cell 3)=D.lit (.int .i64
 a)/\Br (a==0) (∀ a,c<=a->ACalls prog 113 [.bool] [.dg 2 (D.sub I 4 2),.dg 2 (D.ag [D.lit (.int .i64 0),D.sl Option.none 2 [] 0])] a (fun
 b c=>a<=c->Br b (∀ a,c<=a->ACalls prog 113 [.bool] [.dg 2 (D.sub I 6 2),.dg 2 (D.ag [D.lit (.int .i64 0),D.sl Option.none 2 []
 0])] a (λb c=>a<=c->∀ a,c<=a->Q b a)) (∀ a,c<=a->Q false a))) (∀ a,c<=a->Q false a)) (∀ a,
 c<=a->Q false a)) (∀ a,c<=a->Q false a)) (∀ a,c<=a->Q false a)))))))))))):ACalls prog 112 [.bool] [PV.dg 9 I] N Q:=
  eE (H:=zHy) (by kernel_rfl) (by kernel_rfl) h
theorem zIV (N:Nat) (I:D) (Q:QT [.bool]) (h :
Bel N I->∀ a,N<=a->ACalls prog 111 [.bool] [.dg 9 I,.fn 112 []] a (λb c=>a<=c->∀ a,c<=a->Q b a)):ACalls prog 50 [.bool] [PV.dg 9 I] N Q:=
 eE (H:=zIE) (by kernel_rfl) (by kernel_rfl) h
theorem zB2 (N:Nat) (I:D) (n1:Int) (Q:QT [.bool]) (h :
Bel N I->∀ a,N<=a->ACalls prog 65 [.bool] [.int .i64 n1,.int .i64 0,.int .i64 2] a (λb c=>a<=c->∀ a,c<=a->Q b a)):ACalls prog 162 [.bool] [PV.dg 9 I,PV.int .i64 n1] N Q:=
 eE (H:=zBT) (by kernel_rfl) (by kernel_rfl) h
theorem s5 (N:Nat) (x0:D) (n1:Int) (Q:QT [.int .i64]) (h :
Bel N x0->∃ n:Int,(x0.cell 0)=D.lit (.int .i64 n)/\Br (n==10) (∀ a,N<=a->Q (IntKind.i64.wrap (n1+1)) a) (Br (n==11) (∀ a,N<=a->Q (IntKind.i64.wrap
 (n1 - 1)) a) (∀ a,N<=a->Q n1 a))):ACalls prog 224 [.int .i64] [PV.dg 9 x0,PV.int .i64 n1] N Q:=
  eE (H:=zCb) (by kernel_rfl) (by kernel_rfl) h
theorem zFK (N:Nat) (I:D) (n1:Int) (Q:QT [.bool]) (h :
Bel N I->∀ a,N<=a->ACalls prog 50 [.bool] [.dg 9 I] a (λb c=>a<=c->Br b (∀ a,c<=a->ACalls prog 161 [.bool] [.dg 9 I,.int .i64
 n1,.fn 162 []] a (λb c=>a<=c->∀ a,c<=a->Q b a)) (∀ a,c<=a->Q false a))):ACalls prog 102 [.bool] [PV.dg 9 I,PV.int .i64 n1] N Q:=
  eE (H:=zD4) (by kernel_rfl) (by kernel_rfl) h
theorem zEs (N:Nat) (I:D) (Q:QT [.ag 2]) (h :
Bel N I->∃ n:Int,(I.cell 0)=D.lit (.int .i64 n)/\∃ a b,∃ c:Nat,(I.cell 1)=D.sl a 2 b c/\vB Q N a b c (b.length:Int) 0 0 Option.none
 [] 0 n Option.none [] 0 N):ACalls prog 226 [.ag 2] [PV.dg 2 I] N Q:=
  eE (H:=v6) (by kernel_rfl) (by kernel_rfl) h
theorem vM (Q:QT [.int .i64]) (N0:Nat) (a0:Option Addr) (e0:List D) (c0:Nat) (s1:ByteArray) (n7 n8:Int) (N:Nat) (h :
Br (decide (n8<n7)) ((0<=n8/\n8<(e0.length:Int))/\∃ s,List.getD e0 n8.toNat default=D.lit (.string s)/\Br (ByteArray.toList s1==ByteArray.toList s)
 (∀ a,N<=a->Q n8 a) (yV Q N0 a0 e0 c0 s1 n7 (IntKind.i64.wrap (n8+1)) N)) (∀ a,N<=a->Q (-1) a)):yV Q N0 a0 e0 c0 s1 n7 n8 N:=
  hE (H:=uE) (by kernel_rfl) h
theorem rG (Q:QT [.bool]) (N0:Nat) (J:ByteArray) (O I:Int) (N:Nat) (h :
Br (decide (I<O)) ((0<=I/\I<(J.size:Int))/\Br (decide ((UInt8.toNat (Array.getD (ByteArray.data J) I.toNat (OfNat.ofNat 0)):Int)≥97)) ((0<=I
 /\ I<(J.size:Int))/\Br (!(decide ((UInt8.toNat (Array.getD (ByteArray.data J) I.toNat (OfNat.ofNat 0)):Int)<=122))) (Br (I==0) (∀ a,N<=a->Q
 false a) ((0<=I/\I<(J.size:Int))/\Br (decide ((UInt8.toNat (Array.getD (ByteArray.data J) I.toNat (OfNat.ofNat 0)):Int)<48)) (∀ a,N<=a ->
 Q false a) ((0<=I/\I<(J.size:Int))/\Br (decide ((UInt8.toNat (Array.getD (ByteArray.data J) I.toNat (OfNat.ofNat 0)):Int)>57)) (∀ a,N<=a
 -> Q false a) (yj Q N0 J O (IntKind.i64.wrap (I+1)) N)))) (yj Q N0 J O (IntKind.i64.wrap (I+1)) N)) (Br (I==0) (∀ a,N
 <= a->Q false a) ((0<=I/\I<(J.size:Int))/\Br (decide ((UInt8.toNat (Array.getD (ByteArray.data J) I.toNat (OfNat.ofNat 0)):Int)<48)) (∀ a,
 N<=a->Q false a) ((0<=I/\I<(J.size:Int))/\Br (decide ((UInt8.toNat (Array.getD (ByteArray.data J) I.toNat (OfNat.ofNat 0)):Int)>57)) (∀ a,
 N<=a->Q false a) (yj Q N0 J O (IntKind.i64.wrap (I+1)) N))))) (∀ c,N<=c->ACalls prog 65 [.bool] [.int .i64 (J.size:Int),.int .i64
 1,.int .i64 4] c (λb d=>c<=d->Br b ((5=5/\5=5)/\∀ a,ApA a [D.lit (.string (bytes [105,102])),D.lit (.string (bytes [108,101,116])),D.lit
 (.string (bytes [108,105,102,116])),D.lit (.string (bytes [114,101,99])),D.lit (.string (bytes [114,117,110]))]->∀ b,d<=b->wL b [a]->ACalls
 prog 184 [.bool] [.sv a 0 [D.lit (.string (bytes [105,102])),D.lit (.string (bytes [108,101,116])),D.lit (.string (bytes [108,105,102,116])),D.lit (.string
 (bytes [114,101,99])),D.lit (.string (bytes [114,117,110]))] 5,.str J] b (λa c=>b<=c->∀ b,c<=b->Q (!a) b)) (∀ a,d
 <= a->Q false a)))):yj Q N0 J O I N:=
  hE (H:=zAz) (by kernel_rfl) h
theorem uO (Q:QT [.int .i64]) (N0:Nat) (O:Int) (Y:Option Addr) (J:List D) (c7:Nat) (U I:Int) (N:Nat) (h :
Br (decide (I<U)) ((0<=I/\I<(J.length:Int))/\∀ a,N<=a->ACalls prog 275 [.int .i64] [.dg 2 (List.getD J I.toNat default)] a (λn b=>
 a<=b->yx Q N0 (IntKind.i64.wrap (O+n)) Y J c7 U (IntKind.i64.wrap (I+1)) b)) (∀ a,N<=a->Q O a)):yx Q N0 O Y J c7 U I N:=
  hE (H:=tu) (by kernel_rfl) h
theorem ve (Q:QT [.int .i64]) (N0:Nat) (J:Int) (Y:Option Addr) (O:List D) (c7:Nat) (U I:Int) (N:Nat) (h :
Br (decide (I<U)) ((0<=I/\I<(O.length:Int))/\∀ a,N<=a->ACalls prog 276 [.int .i64] [.dg 2 (List.getD O I.toNat default)] a (λn b=>
 a<=b->yf Q N0 (if n>J then n else J) Y O c7 U (IntKind.i64.wrap (I+1)) b)) (∀ a,N<=a->Q (IntKind.i64.wrap (J+1)) a) 
 ):yf Q N0 J Y O c7 U I N:=
  hE (H:=uz) (by kernel_rfl) h
theorem p6 (N:Nat) (I:D) (Q:QT [.bool]) (h :
Bel N I->∀ d,N<=d->ACalls prog 277 [.bool] [.dg 2 I] d (λb e=>d<=e->Br b (∃ a b,∃ c:Nat,(I.cell 1)=D.sl a 2 b c/\∀ d,ApA (Option.some
 d) [D.fn (OfNat.ofNat 277) []]->Off [Option.some d] (D.sl a 2 b c)->∀ f,e<=f->wL f [Option.some d]->ACalls prog 280 [.bool] [.sv a 2 b c,.fn
 281 [.pd d 0 (.fn 277 [])]] f (λa b=>f<=b->∀ c,b<=c->Q (!a) c)) (∀ a,e<=a->Q false a))):ACalls prog 251 [.bool] [.dg 2 I,.fn 277 []] N Q:=
  eE (H:=zD7) (by kernel_rfl) (by kernel_rfl) h
theorem uf (N:Nat) (a0:Option Addr) (e0:List D) (c0:Nat) (I:Option Addr) (e1:List D) (J:Nat) (Q:QT [.bool]) (h :
Bel N (D.sl a0 2 e0 c0)->Bel N (D.sl I 2 e1 J)->Br (bne (e0.length:Int) (e1.length:Int)) (∀ a,N<=a->Q false a) (zQ Q N I
 e1 J a0 e0 c0 (e0.length:Int) 0 N)):ACalls prog 180 [.bool] [.sv a0 2 e0 c0,.sv I 2 e1 J,.fn 113 []] N Q:=
  eE (H:=wi) (by kernel_rfl) (by kernel_rfl) h
theorem zAg (N:Nat) (I:D) (Q:QT [.bool]) (h :
Bel N I->∀ d,N<=d->ACalls prog 112 [.bool] [.dg 9 I] d (λb e=>d<=e->Br b (∃ a b,∃ c:Nat,(I.cell 8)=D.sl a 9 b c/\∀ d,ApA (Option.some
 d) [D.fn (OfNat.ofNat 112) []]->Off [Option.some d] (D.sl a 9 b c)->∀ f,e<=f->wL f [Option.some d]->ACalls prog 176 [.bool] [.sv a 9 b c,.fn
 177 [.pd d 0 (.fn 112 [])]] f (λa b=>f<=b->∀ c,b<=c->Q (!a) c)) (∀ a,e<=a->Q false a))):ACalls prog 111 [.bool] [.dg 9 I,.fn 112 []] N Q:=
  eE (H:=zDv) (by kernel_rfl) (by kernel_rfl) h
theorem zDF (N:Nat) (I:D) (n1:Int) (Q:QT [.bool]) (h :
Bel N I->∀ d,N<=d->ACalls prog 162 [.bool] [.dg 9 I,.int .i64 n1] d (λb e=>d<=e->Br (!b) (∀ a,e<=a->Q false a) (∃ a b,∃ c
 : Nat,(I.cell 8)=D.sl a 9 b c/\wa Q N n1 a b c (b.length:Int) 0 I e))):ACalls prog 161 [.bool] [.dg 9 I,.int .i64 n1,.fn 162 []] N Q:=
  eE (H:=zAa) (by kernel_rfl) (by kernel_rfl) h
theorem tv (Q:QT [.ag 2]) (N0:Nat) (aj:Option Addr) (aa:List D) (ak:Nat) (ai J ab:Int) (ac:Option Addr) (ae:List D) (ah:Nat) (O:Int) (U:Option Addr) (I:List D) (Y:Nat) (N:Nat) (h :
Br (decide (J<ai)) ((0<=J/\J<(aa.length:Int))/\∀ a,N<=a->ACalls prog 226 [.ag 2] [.dg 2 (List.getD aa J.toNat default)] a (λx b
 => a<=b->Bel b x->zRG U I Y [x]/\zB I [x] 32/\∀ (c:Nat),yg Q N0 aj aa ak ai (IntKind.i64.wrap (J+1)) ab
 ac ae ah O (I++[x]).length c (I++[x]) c b)) (∀ a,N<=a->Q (D.ag [D.lit (.int .i64 O),D.sl U 2 I Y]) a)):vB Q N0 aj aa ak ai J ab ac ae ah O U I Y N:=
  hE (H:=v6) (by kernel_rfl) h
theorem vZ (N:Nat) (a0:Option Addr) (e0:List D) (c0:Nat) (I:Addr) (Q:QT [.bool]) (h :
Bel N (D.sl a0 2 e0 c0)->∀ a,N<=a->ACalls prog 296 [.int .i64] [.sv a0 2 e0 c0,.fn 281 [.pd I 0 (.fn 277 [])]] a (λn b=>a<=b->∀ a,b
 <= a->Q (decide (n≥0)) a)):ACalls prog 280 [.bool] [.sv a0 2 e0 c0,.fn 281 [.pd I 0 (.fn 277 [])]] N Q:=
  eE (H:=ud) (by kernel_rfl) (by kernel_rfl) h
theorem xg (Q:QT [.bool]) (N0:Nat) (a1:Option Addr) (e1:List D) (c1:Nat) (U:Option Addr) (J:List D) (Y:Nat) (O I:Int) (N:Nat) (h :
Br (decide (I<O)) ((0<=I/\I<(J.length:Int))/\(0<=I/\I<(e1.length:Int))/\∀ a,N<=a->ACalls prog 113 [.bool] [.dg 2 (List.getD
 J I.toNat default),.dg 2 (List.getD e1 I.toNat default)] a (λb c=>a<=c->Br (!b) (∀ a,c<=a->Q false a) (zQ
 Q N0 a1 e1 c1 U J Y O (IntKind.i64.wrap (I+1)) c))) (∀ a,N<=a->Q true a)):zQ Q N0 a1 e1 c1 U J Y O I N:=
  hE (H:=wi) (by kernel_rfl) h
theorem vW (N:Nat) (a0:Option Addr) (e0:List D) (c0:Nat) (I:Addr) (Q:QT [.bool]) (h :
Bel N (D.sl a0 9 e0 c0)->∀ a,N<=a->ACalls prog 235 [.int .i64] [.sv a0 9 e0 c0,.fn 177 [.pd I 0 (.fn 112 [])]] a (λn b=>a<=b->∀ a,b
 <= a->Q (decide (n≥0)) a)):ACalls prog 176 [.bool] [.sv a0 9 e0 c0,.fn 177 [.pd I 0 (.fn 112 [])]] N Q:=
  eE (H:=ui) (by kernel_rfl) (by kernel_rfl) h
theorem rP (Q:QT [.bool]) (N0:Nat) (n1:Int) (U:Option Addr) (J:List D) (Y:Nat) (O I:Int) (y0:D) (N:Nat) (h :
Br (decide (I<O)) ((0<=I/\I<(J.length:Int))/\∀ a,N<=a->ACalls prog 224 [.int .i64] [.dg 9 y0,.int .i64 n1] a (λn c=>a<=c
 -> ∀ a,c<=a->ACalls prog 161 [.bool] [.dg 9 (List.getD J I.toNat default),.int .i64 n,.fn 162 []] a (λb c=>a<=c->Br (!b) (∀ a,c
 <= a->Q false a) (wa Q N0 n1 U J Y O (IntKind.i64.wrap (I+1)) y0 c)))) (∀ a,N<=a->Q true a)):wa Q N0 n1 U J Y O I y0 N:=
  hE (H:=zAa) (by kernel_rfl) h
theorem vh (Q:QT [.ag 2]) (N0:Nat) (aj:Option Addr) (aa:List D) (ak:Nat) (ai O ab:Int) (ac:Option Addr) (ae:List D) (ah:Nat) (U:Int) (I J:Nat) (Y:List D) (q2:Nat) (N:Nat) (h :
Br (decide (O<ai)) ((0<=O/\O<(aa.length:Int))/\∀ a,N<=a->ACalls prog 226 [.ag 2] [.dg 2 (List.getD aa O.toNat default)] a (λx b
 => a<=b->Bel b x->(I=Y.length/\J=q2)/\zB Y [x] 32/\∀ (c:Nat),yg Q N0 aj aa ak ai (IntKind.i64.wrap (O+1))
 ab ac ae ah U (Y++[x]).length c (Y++[x]) c b)) ((I=Y.length/\J=q2)/\(I=Y.length/\J=q2)/\(I=Y.length/\J=q2)
 /\ ∀ a b,N<=b->Fresh N0 b a [D.ag Y]->∀ c,b<=c->Q (D.ag [D.lit (.int .i64 U),D.sl a 2 Y q2]) c)):yg Q N0 aj aa ak ai O ab ac ae ah U I J Y q2 N:=
  hE (H:=v6) (by kernel_rfl) h
theorem uj (N:Nat) (a0:Option Addr) (e0:List D) (c0:Nat) (I:Addr) (Q:QT [.int .i64]) (h :
Bel N (D.sl a0 2 e0 c0)->zr Q N a0 e0 c0 I (e0.length:Int) 0 N):ACalls prog 296 [.int .i64] [.sv a0 2 e0 c0,.fn 281 [.pd I 0 (.fn 277 [])]] N Q:=
 eE (H:=wX) (by kernel_rfl) (by kernel_rfl) h
theorem uh (N:Nat) (a0:Option Addr) (e0:List D) (c0:Nat) (I:Addr) (Q:QT [.int .i64]) (h :
Bel N (D.sl a0 9 e0 c0)->zt Q N a0 e0 c0 I (e0.length:Int) 0 N):ACalls prog 235 [.int .i64] [.sv a0 9 e0 c0,.fn 177 [.pd I 0 (.fn 112 [])]] N Q:=
 eE (H:=ww) (by kernel_rfl) (by kernel_rfl) h
theorem xj (Q:QT [.int .i64]) (N0:Nat) (a0:Option Addr) (e0:List D) (c0:Nat) (I:Addr) (O J:Int) (N:Nat) (h :
Br (decide (J<O)) ((0<=J/\J<(e0.length:Int))/\∀ a,N<=a->ACalls prog 281 [.bool] [.dg 2 (List.getD e0 J.toNat default),.pd I 0 (.fn 277 [])]
 a (λb c=>a<=c->Br b (∀ a,c<=a->Q J a) (zr Q N0 a0 e0 c0 I O (IntKind.i64.wrap (J+1)) c))) (∀ a,N <=
 a->Q (-1) a)):zr Q N0 a0 e0 c0 I O J N:=
  hE (H:=wX) (by kernel_rfl) h
theorem xe (Q:QT [.int .i64]) (N0:Nat) (a0:Option Addr) (e0:List D) (c0:Nat) (I:Addr) (O J:Int) (N:Nat) (h :
Br (decide (J<O)) ((0<=J/\J<(e0.length:Int))/\∀ a,N<=a->ACalls prog 177 [.bool] [.dg 9 (List.getD e0 J.toNat default),.pd I 0 (.fn 112 [])]
 a (λb c=>a<=c->Br b (∀ a,c<=a->Q J a) (zt Q N0 a0 e0 c0 I O (IntKind.i64.wrap (J+1)) c))) (∀ a,N <=
 a->Q (-1) a)):zt Q N0 a0 e0 c0 I O J N:=
  hE (H:=ww) (by kernel_rfl) h
theorem qm (N:Nat) (I:D) (J:Addr) (Q:QT [.bool]) (h :
Bel N I->∀ a,N<=a->ACalls prog 251 [.bool] [.dg 2 I,.fn 277 []] a (λb c=>a<=c->∀ a,c<=a->Q (!b) a)):ACalls prog 281 [.bool] [.dg 2 I,.pd J 0 (.fn 277 [])] N Q:=
 eE (H:=zBh) (by kernel_rfl) (by kernel_rfl) h
theorem qw (N:Nat) (I:D) (J:Addr) (Q:QT [.bool]) (h :
Bel N I->∀ a,N<=a->ACalls prog 111 [.bool] [.dg 9 I,.fn 112 []] a (λb c=>a<=c->∀ a,c<=a->Q (!b) a)):ACalls prog 177 [.bool] [.dg 9 I,.pd J 0 (.fn 112 [])] N Q:=
 eE (H:=zCB) (by kernel_rfl) (by kernel_rfl) h
end Go.Proofs.YtmfjakahanbnlaaGreatDoor
set_option maxRecDepth 100000
namespace Go.Proofs.YtmfjakahanbnlaaGreatDoor
open Go Go.Proofs Go.Proofs.Tryz
def zAA:Hint:=⟨[hc 3 [3,7,8,9]],[],[(5,hs 5 [ec 2 [14]])]⟩
def pE:Hint:=⟨[hc 3 [1,3,4]],[],[(5,hs 9 [ec 6 [17]])]⟩
def pC:Hint:=⟨[hc 2 [0,1,5]],[],[]⟩
def zAm:Hint:=⟨[],[],[(1,hs 13 [ec 1 [3],ec 5 [7],ec 10 [12]])]⟩
def zBB:Hint:=⟨[hc 3 [1,2,5]],[],[(5,hs 8 [ec 6 [23]])]⟩
def wo (Q:QT [.int .i64]) (N0:Nat) (I:Int) (J:Option Addr) (O:List D) (U:Nat) (Y n9:Int) (N:Nat):Prop:=AT prog 103 [.int .i64] Q N0 .ord (zC prog 103 3) ⟨an 3 (.int .i64 I::an 3 (.sv J 9 O U::.int .i64 Y::.int .i64 n9::an 9 [])),[],N,none⟩
def xp (Q:QT [.int .i64]) (N0:Nat) (I J:Int) (O:D) (N:Nat):Prop:=AT prog 303 [.int .i64] Q N0 .ord (zC prog 303 3) ⟨an 1 (.pb 0 0 0 0::an 1 (.int .i64 I::.int .i64 J::an 17 [])),[.vd O 9],N,none⟩
def xr (Q:QT [.int .i64]) (N0:Nat) (a0:Option Addr) (e0:List D) (c0:Nat) (I:ByteArray) (J:Int) (N:Nat):Prop:=AT prog 234 [.int .i64] Q N0 .ord (zC prog 234 2) ⟨.sv a0 0 e0 c0::.str I::an 3 (.int .i64 J::an 13 []),[],N,none⟩
def wY (Q:QT [.int .i64]) (N0:Nat) (n1 I:Int) (J:D) (N:Nat):Prop:=AT prog 302 [.int .i64] Q N0 .ord (zC prog 302 3) ⟨an 1 (.int .i64 n1::.pb 0 0 0 0::an 2 (.int .i64 I::an 21 [])),[.vd J 9],N,none⟩
theorem zIr (N:Nat) (I:D) (Q:QT [.int .i64]) (h :
Bel N I->∃ a b,∃ c:Nat,(I.cell 8)=D.sl a 9 b c/\wo Q N 1 a b c (b.length:Int) 0 N):ACalls prog 103 [.int .i64] [PV.dg 9 I] N Q:=
 eE (H:=zAA) (by kernel_rfl) (by kernel_rfl) h
theorem zFa (N:Nat) (I:D) (Q:QT [.int .i64]) (h :
Bel N I->xp Q N 0 0 I N):ACalls prog 303 [.int .i64] [PV.dg 9 I] N Q:=
 eE (H:=pE) (by kernel_rfl) (by kernel_rfl) h
theorem zFe (N:Nat) (a0:Option Addr) (e0:List D) (c0:Nat) (I:ByteArray) (Q:QT [.int .i64]) (h :
Bel N (D.sl a0 0 e0 c0)->xr Q N a0 e0 c0 I 0 N):ACalls prog 234 [.int .i64] [PV.sv a0 0 e0 c0,PV.str I] N Q:=
 eE (H:=pC) (by kernel_rfl) (by kernel_rfl) h
theorem zAK (N:Nat) (I:D) (Q:QT [.bool]) (h :
Bel N I->∀ a,N<=a->ACalls prog 302 [.int .i64] [.dg 9 I,.int .i64 80] a (λn c=>a<=c->Br (decide (n≥0)) (∀ a,c<=a->ACalls prog
 303 [.int .i64] [.dg 9 I] a (λc d=>a<=d->Br (decide (c<=20)) (∀ a,d<=a->ACalls prog 46 [.bool] [.dg 9 I] a (λb c=>a<=c
 -> ∀ a,c<=a->Q b a)) (∀ a,d<=a->Q false a))) (∀ a,c<=a->Q false a))):ACalls prog 288 [.bool] [PV.dg 9 I] N Q:=
  eE (H:=zAm) (by kernel_rfl) (by kernel_rfl) h
theorem zIv (N:Nat) (I:D) (n1:Int) (Q:QT [.int .i64]) (h :
Bel N I->wY Q N (IntKind.i64.wrap (n1 - 1)) 0 I N):ACalls prog 302 [.int .i64] [PV.dg 9 I,PV.int .i64 n1] N Q:=
 eE (H:=zBB) (by kernel_rfl) (by kernel_rfl) h
theorem rX (Q:QT [.int .i64]) (N0:Nat) (O:Int) (Y:Option Addr) (J:List D) (c7:Nat) (U I:Int) (N:Nat) (h :
Br (decide (I<U)) ((0<=I/\I<(J.length:Int))/\∀ a,N<=a->ACalls prog 103 [.int .i64] [.dg 9 (List.getD J I.toNat default)] a (λn b=>
 a<=b->wo Q N0 (IntKind.i64.wrap (O+n)) Y J c7 U (IntKind.i64.wrap (I+1)) b)) (∀ a,N<=a->Q O a)):wo Q N0 O Y J c7 U I N:=
  hE (H:=zAA) (by kernel_rfl) h
theorem sj (Q:QT [.int .i64]) (N0:Nat) (O I:Int) (J:D) (N:Nat) (h :
∃ a b,∃ c:Nat,(J.cell 8)=D.sl a 9 b c/\Br (decide (I<(b.length:Int))) (∃ a b,∃ c:Nat,(J.cell 8)=D.sl a 9 b c/\(0<=I/\I
 < (b.length:Int))/\∀ a,N<=a->ACalls prog 303 [.int .i64] [.dg 9 (List.getD b I.toNat default)] a (λn b=>a<=b->∀ a,b<=a ->
 ACalls prog 274 [.int .i64] [.int .i64 O,.int .i64 n] a (λb c=>a<=c->xp Q N0 b (IntKind.i64.wrap (I+1)) J c))) (∀ a,N
 <= a->Q (IntKind.i64.wrap (O+1)) a)):xp Q N0 O I J N:=
  hE (H:=pE) (by kernel_rfl) h
theorem sd (Q:QT [.int .i64]) (N0:Nat) (a0:Option Addr) (e0:List D) (c0:Nat) (J:ByteArray) (I:Int) (N:Nat) (h :
Br (decide (I<(e0.length:Int))) ((0<=I/\I<(e0.length:Int))/\∃ s,List.getD e0 I.toNat default=D.lit (.string s)/\Br (ByteArray.toList s==ByteArray.toList
 J) (∀ a,N<=a->Q I a) (xr Q N0 a0 e0 c0 J (IntKind.i64.wrap (I+1)) N)) (∀ a,N<=a->Q (-1) a)):xr Q N0 a0 e0 c0 J I N:=
  hE (H:=pC) (by kernel_rfl) h
theorem rM (Q:QT [.int .i64]) (N0:Nat) (n1 I:Int) (J:D) (N:Nat) (h :
∃ a b,∃ c:Nat,(J.cell 8)=D.sl a 9 b c/\Br (decide (I<(b.length:Int))) (Br (decide (n1≥0)) (∃ a b,∃ c:Nat,(J.cell 8)=D.sl a 9 b
 c/\(0<=I/\I<(b.length:Int))/\∀ a,N<=a->ACalls prog 302 [.int .i64] [.dg 9 (List.getD b I.toNat default),.int .i64 n1] a (λn b=>
 a<=b->wY Q N0 n (IntKind.i64.wrap (I+1)) J b)) (∀ a,N<=a->Q n1 a)) (∀ a,N<=a->Q n1 a)):wY Q N0 n1 I J N:=
  hE (H:=zBB) (by kernel_rfl) h
end Go.Proofs.YtmfjakahanbnlaaGreatDoor
