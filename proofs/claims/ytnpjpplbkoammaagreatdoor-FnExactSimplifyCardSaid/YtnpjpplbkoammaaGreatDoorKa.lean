/- Printed by gen.py: what the functions come to. -/
import Derived.Test.YtnpjpplbkoammaaGreatDoorJh
set_option linter.unusedVariables false
set_option maxRecDepth 100000
namespace Go.Proofs.YtnpjpplbkoammaaGreatDoor
open Go Go.Proofs Go.Proofs.Tryz
def zFD:Hint:=⟨[],[],[]⟩
def rr:Hint:=⟨[hc 5 [0,1,5]],[],[(7,hs 7 [ec 5 [21]])]⟩
def zFW:Hint:=⟨[],[],[(7,hs 5 [ec 3 [20]]),(10,hs 5 [ec 3 [26]])]⟩
def rh:Hint:=⟨[hc 5 [0,1,5]],[],[(7,hs 7 [ec 5 [21]])]⟩
def xX (Q:QT [.int .i64]) (N0:Nat) (a0:Option Addr) (e0:List D) (c0:Nat) (n1 n5:Int) (N:Nat):Prop:=AT prog 62 [.int .i64] Q N0 .ord (zF prog 62 5) ⟨.sv a0 2 e0 c0::.int .i64 n1::an 3 (.int .i64 n5::an 21 []),[],N,none⟩
def yf (Q:QT [.int .i64]) (N0:Nat) (a0:Option Addr) (e0:List D) (c0:Nat) (n1 n5:Int) (N:Nat):Prop:=AT prog 33 [.int .i64] Q N0 .ord (zF prog 33 5) ⟨.sv a0 9 e0 c0::.int .i64 n1::an 3 (.int .i64 n5::an 21 []),[],N,none⟩
theorem zEx (N:Nat) (x0:D) (n1:Int) (Q:QT [.int .i64]) (h :
Bel N x0→∃ a b,∃ c:Nat,(x0.cell 1)=D.sl a 2 b c∧∀ d,N≤d→ACalls prog 62 [.int .i64] [.sv a 2 b c,.int .i64 n1] d (fun n a=>d≤a
 → Br (decide (n<0)) (∀ b,a≤b→Q (-1) b) (∀ b,a≤b→Q n b))):ACalls prog 32 [.int .i64] [PV.dg 2 x0,PV.int .i64 n1] N Q:=
  eE (H:=zFD) (by kernel_rfl) (by kernel_rfl) h
theorem zC1 (N:Nat) (a0:Option Addr) (e0:List D) (c0:Nat) (n1:Int) (Q:QT [.int .i64]) (h :
Bel N (D.sl a0 2 e0 c0)→Br (decide (IntKind.i64.wrap (n1 - (e0.length:Int))<0)) (∀ a,N≤a→Q (-1) a) (xX Q N a0 e0 c0 (IntKind.i64.wrap
 (n1 - (e0.length:Int))) 0 N)):ACalls prog 62 [.int .i64] [PV.sv a0 2 e0 c0,PV.int .i64 n1] N Q:=
  eE (H:=rr) (by kernel_rfl) (by kernel_rfl) h
theorem zFb (N:Nat) (x0:D) (n1:Int) (Q:QT [.int .i64]) (h :
Bel N x0→∃ s,(x0.cell 1)=D.lit (.string s)∧Br (decide (IntKind.i64.wrap (n1 - (s.size:Int))<0)) (∀ a,N≤a→Q (-1) a) (∃ b,(x0.cell 2)=D.lit
 (.string b)∧Br (decide (IntKind.i64.wrap (IntKind.i64.wrap (n1 - (s.size:Int)) - (b.size:Int))<0)) (∀ a,N≤a→Q (-1) a) (∀ d,N≤d→ACalls
 prog 32 [.int .i64] [.dg 2 (D.sub x0 4 2),.int .i64 (IntKind.i64.wrap (IntKind.i64.wrap (n1 - (s.size:Int)) - (b.size:Int)))] d (fun n b=>d≤b
 → Br (decide (n<0)) (∀ a,b≤a→Q (-1) a) (∀ d,b≤d→ACalls prog 32 [.int .i64] [.dg 2 (D.sub x0 6 2),.int .i64 n] d (fun b e=>d
 ≤ e→Br (decide (b<0)) (∀ a,e≤a→Q (-1) a) (∃ a d,∃ c:Nat,(x0.cell 8)=D.sl a 9 d c∧∀ f,e≤f→ACalls prog 33 [.int .i64] [.sv
 a 9 d c,.int .i64 b] f (fun a b=>f≤b→Br (decide (a<0)) (∀ a,b≤a→Q (-1) a) (∀ c,b≤c→Q a c))))))))):ACalls prog 9 [.int .i64] [PV.dg 9 x0,PV.int .i64 n1] N Q:=
  eE (H:=zFW) (by kernel_rfl) (by kernel_rfl) h
theorem zDC (N:Nat) (a0:Option Addr) (e0:List D) (c0:Nat) (n1:Int) (Q:QT [.int .i64]) (h :
Bel N (D.sl a0 9 e0 c0)→Br (decide (IntKind.i64.wrap (n1 - (e0.length:Int))<0)) (∀ a,N≤a→Q (-1) a) (yf Q N a0 e0 c0 (IntKind.i64.wrap
 (n1 - (e0.length:Int))) 0 N)):ACalls prog 33 [.int .i64] [PV.sv a0 9 e0 c0,PV.int .i64 n1] N Q:=
  eE (H:=rh) (by kernel_rfl) (by kernel_rfl) h
theorem tK (Q:QT [.int .i64]) (N0:Nat) (a0:Option Addr) (e0:List D) (c0:Nat) (n1 n5:Int) (N:Nat) (h :
Br (decide (n5<(e0.length:Int))) ((0≤n5∧n5<(e0.length:Int))∧∀ a,N≤a→ACalls prog 32 [.int .i64] [.dg 2 (List.getD e0 n5.toNat default),.int
 .i64 n1] a (fun n b=>a≤b→Br (decide (n<0)) (∀ a,b≤a→Q (-1) a) (xX Q N0 a0 e0 c0 n (IntKind.i64.wrap (n5+1)) b))) (∀
 a,N≤a→Q n1 a)):xX Q N0 a0 e0 c0 n1 n5 N:=
  hE (H:=rr) (by kernel_rfl) h
theorem tO (Q:QT [.int .i64]) (N0:Nat) (a0:Option Addr) (e0:List D) (c0:Nat) (n1 n5:Int) (N:Nat) (h :
Br (decide (n5<(e0.length:Int))) ((0≤n5∧n5<(e0.length:Int))∧∀ a,N≤a→ACalls prog 9 [.int .i64] [.dg 9 (List.getD e0 n5.toNat default),.int
 .i64 n1] a (fun n b=>a≤b→Br (decide (n<0)) (∀ a,b≤a→Q (-1) a) (yf Q N0 a0 e0 c0 n (IntKind.i64.wrap (n5+1)) b))) (∀
 a,N≤a→Q n1 a)):yf Q N0 a0 e0 c0 n1 n5 N:=
  hE (H:=rh) (by kernel_rfl) h
end Go.Proofs.YtnpjpplbkoammaaGreatDoor
set_option maxRecDepth 100000
namespace Go.Proofs.YtnpjpplbkoammaaGreatDoor
open Go Go.Proofs Go.Proofs.Tryz
def zE0:Hint:=⟨[],[],[]⟩
def rc:Hint:=⟨[hc 3 [0,3,4]],[],[(5,hs 9 [ec 6 [19]])]⟩
def zFU:Hint:=⟨[],[],[(6,hs 5 [ec 2 [17]]),(7,hs 5 [ec 2 [21]])]⟩
def rU:Hint:=⟨[hc 3 [0,3,4]],[],[(5,hs 9 [ec 6 [19]])]⟩
def xa (Q:QT [.sl 2]) (N0:Nat) (a0:Option Addr) (e0:List D) (c0 m3 c3:Nat) (n4:Int) (r0:List D) (q0:Nat) (N:Nat):Prop:=AT prog 71 [.sl 2] Q N0 .ord (zF prog 71 3) ⟨.sv a0 2 e0 c0::an 2 (.sb 0 2 0 m3 c3::.int .i64 n4::an 18 []),[.arr 31 2 r0 q0],N,none⟩
def xb (Q:QT [.sl 9]) (N0:Nat) (a0:Option Addr) (e0:List D) (c0 m3 c3:Nat) (n4:Int) (r0:List D) (q0:Nat) (N:Nat):Prop:=AT prog 38 [.sl 9] Q N0 .ord (zF prog 38 3) ⟨.sv a0 9 e0 c0::an 2 (.sb 0 9 0 m3 c3::.int .i64 n4::an 18 []),[.arr 34 9 r0 q0],N,none⟩
theorem zEp (N:Nat) (x0:D) (Q:QT [.ag 2]) (h :
Bel N x0→∃ n:Int,(x0.cell 0)=D.lit (.int .i64 n)∧∃ a b,∃ c:Nat,(x0.cell 1)=D.sl a 2 b c∧∀ d,N≤d→ACalls prog 71 [.sl 2] [.sv a 2 b c]
 d (fun a b c e=>d≤e→Bel e (D.sl a 2 b c)→∀ d,e≤d→Q (D.ag [D.lit (.int .i64 n),D.sl a 2 b c]) d)):ACalls prog 37 [.ag 2] [PV.dg 2 x0] N Q:=
  eE (H:=zE0) (by kernel_rfl) (by kernel_rfl) h
theorem zDy (N:Nat) (a0:Option Addr) (e0:List D) (c0:Nat) (Q:QT [.sl 2]) (h :
Bel N (D.sl a0 2 e0 c0)→(0≤(e0.length:Int)∧(e0.length:Int)≤(e0.length:Int)∧(32*(e0.length:Int))≤140737488355328∧(e0.length:Int)≤9223372036854775807)
 ∧ xa Q N a0 e0 c0 ((e0.length:Int)).toNat ((e0.length:Int)).toNat 0 (List.replicate ((e0.length:Int)).toNat (D.ag [D.lit (.int .i64 0),D.sl
 Option.none 2 [] 0])) ((e0.length:Int)).toNat N):ACalls prog 71 [.sl 2] [PV.sv a0 2 e0 c0] N Q:=
  eE (H:=rc) (by kernel_rfl) (by kernel_rfl) h
theorem zFG (N:Nat) (x0:D) (Q:QT [.ag 9]) (h :
Bel N x0→∃ n:Int,(x0.cell 0)=D.lit (.int .i64 n)∧∃ s,(x0.cell 1)=D.lit (.string s)∧∃ b,(x0.cell 2)=D.lit (.string b)∧∃ d:Int,(x0.cell
 3)=D.lit (.int .i64 d)∧∀ e,N≤e→ACalls prog 37 [.ag 2] [.dg 2 (D.sub x0 4 2)] e (fun x f=>e≤f→Bel f x→∀ e,f≤e→ACalls prog
 37 [.ag 2] [.dg 2 (D.sub x0 6 2)] e (fun f g=>e≤g→Bel g f→∃ a e,∃ c:Nat,(x0.cell 8)=D.sl a 9 e c∧∀ h,g≤h→ACalls prog 38
 [.sl 9] [.sv a 9 e c] h (fun a c e g=>h≤g→Bel g (D.sl a 9 c e)→∀ h,g≤h→Q (D.ag [D.lit (.int .i64 n),D.lit (.string s),
 D.lit (.string b),D.lit (.int .i64 d),(x.cell 0),(x.cell 1),(f.cell 0),(f.cell 1),D.sl a 9 c e]) h)))):ACalls prog 11 [.ag 9] [PV.dg 9 x0] N Q:=
  eE (H:=zFU) (by kernel_rfl) (by kernel_rfl) h
theorem zDY (N:Nat) (a0:Option Addr) (e0:List D) (c0:Nat) (Q:QT [.sl 9]) (h :
Bel N (D.sl a0 9 e0 c0)→(0≤(e0.length:Int)∧(e0.length:Int)≤(e0.length:Int)∧(136*(e0.length:Int))≤140737488355328∧(e0.length:Int)≤9223372036854775807)
 ∧ xb Q N a0 e0 c0 ((e0.length:Int)).toNat ((e0.length:Int)).toNat 0 (List.replicate ((e0.length:Int)).toNat (D.ag [D.lit (.int .i64 0),D.lit
 (.string (bytes [])),D.lit (.string (bytes [])),D.lit (.int .i64 0),D.lit (.int .i64 0),D.sl Option.none 2 [] 0,D.lit (.int .i64 0),D.sl Option.none 2 [] 0,
 D.sl Option.none 9 [] 0])) ((e0.length:Int)).toNat N):ACalls prog 38 [.sl 9] [PV.sv a0 9 e0 c0] N Q:=
  eE (H:=rU) (by kernel_rfl) (by kernel_rfl) h
theorem tQ (Q:QT [.sl 2]) (N0:Nat) (a0:Option Addr) (e0:List D) (c0 m3 c3:Nat) (n4:Int) (r0:List D) (q0:Nat) (N:Nat) (h :
Br (decide (n4<(e0.length:Int))) ((0≤n4∧n4<(e0.length:Int))∧∀ a,N≤a→ACalls prog 37 [.ag 2] [.dg 2 (List.getD e0 n4.toNat default)] a (fun
 x b=>a≤b→Bel b x→(0≤n4∧n4<(m3:Int)∧(0+n4.toNat:Nat)<r0.length)∧(0+n4.toNat:Nat)<r0.length∧xa Q N0 a0 e0 c0
 m3 c3 (IntKind.i64.wrap (n4+1)) (List.set r0 (0+n4.toNat:Nat) x) q0 b)) ((m3=r0.length∧c3=q0)∧(m3=r0.length∧c3=q0)∧(m3=r0.length∧c3 =
 q0)∧∀ a b,N≤b→Fresh N0 b a [D.ag r0]→∀ c,b≤c→Q a r0 q0 c)):xa Q N0 a0 e0 c0 m3 c3 n4 r0 q0 N:=
  hE (H:=rc) (by kernel_rfl) h
theorem tE (Q:QT [.sl 9]) (N0:Nat) (a0:Option Addr) (e0:List D) (c0 m3 c3:Nat) (n4:Int) (r0:List D) (q0:Nat) (N:Nat) (h :
Br (decide (n4<(e0.length:Int))) ((0≤n4∧n4<(e0.length:Int))∧∀ a,N≤a→ACalls prog 11 [.ag 9] [.dg 9 (List.getD e0 n4.toNat default)] a (fun
 x b=>a≤b→Bel b x→(0≤n4∧n4<(m3:Int)∧(0+n4.toNat:Nat)<r0.length)∧(0+n4.toNat:Nat)<r0.length∧xb Q N0 a0 e0 c0
 m3 c3 (IntKind.i64.wrap (n4+1)) (List.set r0 (0+n4.toNat:Nat) x) q0 b)) ((m3=r0.length∧c3=q0)∧(m3=r0.length∧c3=q0)∧(m3=r0.length∧c3 =
 q0)∧∀ a b,N≤b→Fresh N0 b a [D.ag r0]→∀ c,b≤c→Q a r0 q0 c)):xb Q N0 a0 e0 c0 m3 c3 n4 r0 q0 N:=
  hE (H:=rU) (by kernel_rfl) h
end Go.Proofs.YtnpjpplbkoammaaGreatDoor
set_option maxRecDepth 100000
namespace Go.Proofs.YtnpjpplbkoammaaGreatDoor
open Go Go.Proofs Go.Proofs.Tryz
def xU:Hint:=⟨[hc 2 [0,1,5]],[],[(6,hs 8 [em 6 (some 22) [0,1,5]])]⟩
def zCP:Hint:=⟨[],[],[(1,hs 5 [em 3 (some 5) [1]])]⟩
def tC:Hint:=⟨[hc 2 [0,1,5]],[],[]⟩
def zCf:Hint:=⟨[],[],[]⟩
def sW:Hint:=⟨[hc 4 [0,3]],[],[]⟩
def xV:Hint:=⟨[hc 2 [0,1,5]],[],[(14,hs 9 [em 7 (some 54) [0,1,5]]),(17,hs 9 [em 7 (some 70) [0,1,5]]),(18,hs 8 [em 6 (some 77) [0,1,5]])]⟩
def zCj:Hint:=⟨[],[],[(1,hs 5 [em 3 (some 5) [1,2]]),(2,hs 5 [em 3 (some 9) [1,2]]),(3,hs 5 [em 3 (some 13) [1]])]⟩
def uG (Q:QT [.int .i64]) (N0:Nat) (a0:Option Addr) (e0:List D) (c0:Nat) (n1 n5:Int) (N:Nat):Prop:=AT prog 82 [.int .i64] Q N0 .ord (zF prog 82 2) ⟨.sv a0 2 e0 c0::.int .i64 n1::an 3 (.int .i64 n5::an 21 []),[],N,none⟩
def yH (T:List Nat) (b0:Nat) (QM:Int→D→Nat→Prop) (N0:Nat) (m0 c0:Nat) (n1 n5:Int) (t0:Nat) (r0:List D) (q0:Nat) (N:Nat):Prop:=AT prog 82 [] noQ N0 (.mk T (some b0) (2,0) QM) (zF prog 82 2) ⟨.sb 0 2 0 m0 c0::.int .i64 n1::an 3 (.int .i64 n5::an 21 []),[.arr t0 2 r0 q0],N,some ([some b0],T)⟩
def yn (Q:QT [.int .i64]) (N0:Nat) (a0:Option Addr) (e0:List D) (c0:Nat) (n1 n5:Int) (N:Nat):Prop:=AT prog 84 [.int .i64] Q N0 .ord (zF prog 84 2) ⟨.sv a0 2 e0 c0::.int .i64 n1::an 3 (.int .i64 n5::an 25 []),[],N,none⟩
def yz (Q:QT [.str]) (N0:Nat) (n0:Int) (s3:ByteArray) (N:Nat):Prop:=AT prog 83 [.str] Q N0 .ord (zF prog 83 4) ⟨.int .i64 n0::an 2 (.str s3::an 16 []),[],N,none⟩
def uC (Q:QT [.int .i64]) (N0:Nat) (a0:Option Addr) (e0:List D) (c0:Nat) (n1 n5:Int) (N:Nat):Prop:=AT prog 45 [.int .i64] Q N0 .ord (zF prog 45 2) ⟨.sv a0 9 e0 c0::.int .i64 n1::an 3 (.int .i64 n5::an 76 []),[],N,none⟩
def zl (T:List Nat) (b0:Nat) (QM:Int→D→Nat→Prop) (N0:Nat) (m0 c0:Nat) (n1 n5:Int) (t0:Nat) (r0:List D) (q0:Nat) (N:Nat):Prop:=AT prog 45 [] noQ N0 (.mk T (some b0) (9,0) QM) (zF prog 45 2) ⟨.sb 0 9 0 m0 c0::.int .i64 n1::an 3 (.int .i64 n5::an 76 []),[.arr t0 9 r0 q0],N,some ([some b0],T)⟩
theorem zA5 (N:Nat) (a0:Option Addr) (e0:List D) (c0:Nat) (n1:Int) (Q:QT [.int .i64]) (h :
Bel N (D.sl a0 2 e0 c0)→uG Q N a0 e0 c0 n1 0 N):ACalls prog 82 [.int .i64] [PV.sv a0 2 e0 c0,PV.int .i64 n1] N Q:=
 eE (H:=xU) (by kernel_rfl) (by kernel_rfl) h
theorem zAi (N:Nat) (ad:Addr) (e0:List D) (c0:Nat) (n1:Int) (R:D→Int→Nat→Prop) (QM:Int→D→Nat→Prop) (htree:Tree (.sl (some ad) 2 e0 c0)) (hne:e0≠[]) (hlen:e0.length≤maxLen) (h:∀ t:Nat,
yH (D.foot (D.sl (Option.some ad) 2 e0 c0)) (Addr.block ad) QM N e0.length c0 n1 0 t e0 e0.length N)
  (hQ:∀ k x N,QM k x N→∃ es,x=.ag es∧es.length=e0.length∧zB es=zB e0∧R (.sl (some ad) 2 es c0) k N):MC prog 82 (.sl (some ad) 2 e0 c0) n1 N R:=
 zQd (sh:=sh) (H:=xU) (fuel:=400) (by kernel_rfl) (by kernel_rfl) (fun t=>by kernel_rfl) htree hne hlen h hQ
theorem zCm (N:Nat) (cs:List D) (n1:Int) (R:D→Int→Nat→Prop) (QM:Int→D→Nat→Prop) (hag:IsAg 2 (.ag cs)) (h :
∃ a b,∃ c:Nat,D.cell (D.ag cs) 1=D.sl a 2 b c∧Tree (D.sl a 2 b c)∧In (D.foot (D.ag cs)) (D.sl a 2 b c)∧1<(D.cells (D.ag cs)).length∧D.cell (D.ag
 cs) 1=D.sl a 2 b c∧Once (D.cells (D.ag cs))∧Dis (D.sl a 2 b c) []∧∀ d,N≤d→MC prog 82 (D.sl a 2 b c) n1 d (fun x n a=>d≤a→∀ b,
 a ≤ b→QM n (D.ag (yP 1 [x] (D.cells (D.ag cs)))) b))
   (hQ:∀ k x N,QM k x N→∃ cs2,x=.ag cs2∧cs2.map D.cv=cs.map D.cv∧zB cs2=zB cs∧R (.ag cs2) k N):MC prog 44 (.ag cs) n1 N R:=
  zQU (sh:=sh) (H:=zCP) (fuel:=400) (xr:=(2,31)) (by kernel_rfl) (by kernel_rfl) (by kernel_rfl) hag h hQ
theorem zA6 (N:Nat) (a0:Option Addr) (e0:List D) (c0:Nat) (n1:Int) (Q:QT [.int .i64]) (h :
Bel N (D.sl a0 2 e0 c0)→yn Q N a0 e0 c0 n1 0 N):ACalls prog 84 [.int .i64] [PV.sv a0 2 e0 c0,PV.int .i64 n1] N Q:=
 eE (H:=tC) (by kernel_rfl) (by kernel_rfl) h
theorem zBp (N:Nat) (x0:D) (n1:Int) (Q:QT [.int .i64]) (h :
Bel N x0→∃ a b,∃ c:Nat,(x0.cell 1)=D.sl a 2 b c∧∀ d,N≤d→ACalls prog 84 [.int .i64] [.sv a 2 b c,.int .i64 n1] d (fun n a=>d≤a
 → Br (decide (n<0)) (∀ b,a≤b→Q (-1) b) (∀ b,a≤b→Q n b))):ACalls prog 46 [.int .i64] [PV.dg 2 x0,PV.int .i64 n1] N Q:=
  eE (H:=zCf) (by kernel_rfl) (by kernel_rfl) h
theorem zBU (N:Nat) (n0:Int) (Q:QT [.str]) (h :
Br (decide (n0≤0)) (∀ a,N≤a→Q (bytes [109,48]) a) (yz Q N n0 (bytes []) N)):ACalls prog 83 [.str] [PV.int .i64 n0] N Q:=
 eE (H:=sW) (by kernel_rfl) (by kernel_rfl) h
theorem zAv (N:Nat) (a0:Option Addr) (e0:List D) (c0:Nat) (n1:Int) (Q:QT [.int .i64]) (h :
Bel N (D.sl a0 9 e0 c0)→uC Q N a0 e0 c0 n1 0 N):ACalls prog 45 [.int .i64] [PV.sv a0 9 e0 c0,PV.int .i64 n1] N Q:=
 eE (H:=xV) (by kernel_rfl) (by kernel_rfl) h
theorem zAo (N:Nat) (ad:Addr) (e0:List D) (c0:Nat) (n1:Int) (R:D→Int→Nat→Prop) (QM:Int→D→Nat→Prop) (htree:Tree (.sl (some ad) 9 e0 c0)) (hne:e0≠[]) (hlen:e0.length≤maxLen) (h:∀ t:Nat,
zl (D.foot (D.sl (Option.some ad) 9 e0 c0)) (Addr.block ad) QM N e0.length c0 n1 0 t e0 e0.length N)
  (hQ:∀ k x N,QM k x N→∃ es,x=.ag es∧es.length=e0.length∧zB es=zB e0∧R (.sl (some ad) 9 es c0) k N):MC prog 45 (.sl (some ad) 9 e0 c0) n1 N R:=
 zQd (sh:=sh) (H:=xV) (fuel:=400) (by kernel_rfl) (by kernel_rfl) (fun t=>by kernel_rfl) htree hne hlen h hQ
theorem zCv (N:Nat) (cs:List D) (n1:Int) (R:D→Int→Nat→Prop) (QM:Int→D→Nat→Prop) (hag:IsAg 9 (.ag cs)) (h :
Tree (D.sub (D.ag cs) 4 2)∧In (D.foot (D.ag cs)) (D.sub (D.ag cs) 4 2)∧6≤(D.cells (D.ag cs)).length∧D.sub (D.ag cs) 4 2=D.sub (D.ag cs) 4 2∧Once (D.cells
 (D.ag cs))∧Dis (D.sub (D.ag cs) 4 2) []∧∀ b,N≤b→MC prog 44 (D.sub (D.ag cs) 4 2) n1 b (fun x n d=>b≤d→Tree (D.sub (D.ag (yP 4 (D.cells
 x) (D.cells (D.ag cs)))) 6 2)∧In (D.foot (D.ag cs)) (D.sub (D.ag (yP 4 (D.cells x) (D.cells (D.ag cs)))) 6 2)∧8≤(D.cells (D.ag (yP 4 (D.cells x) (D.cells
 (D.ag cs))))).length∧D.sub (D.ag (yP 4 (D.cells x) (D.cells (D.ag cs)))) 6 2=D.sub (D.ag (yP 4 (D.cells x) (D.cells (D.ag cs)))) 6 2∧Once (D.cells (D.ag
 (yP 4 (D.cells x) (D.cells (D.ag cs)))))∧Dis (D.sub (D.ag (yP 4 (D.cells x) (D.cells (D.ag cs)))) 6 2) []∧∀ b,d≤b→MC prog 44 (D.sub (D.ag (yP
 4 (D.cells x) (D.cells (D.ag cs)))) 6 2) n b (fun d e f=>b≤f→∃ a b,∃ c:Nat,D.cell (D.ag (yP 6 (D.cells d) (D.cells (D.ag (yP 4 (D.cells
 x) (D.cells (D.ag cs))))))) 8=D.sl a 9 b c∧Tree (D.sl a 9 b c)∧In (D.foot (D.ag cs)) (D.sl a 9 b c)∧8<(D.cells (D.ag (yP 6 (D.cells d) (D.cells
 (D.ag (yP 4 (D.cells x) (D.cells (D.ag cs)))))))).length∧D.cell (D.ag (yP 6 (D.cells d) (D.cells (D.ag (yP 4 (D.cells x) (D.cells (D.ag cs))))))) 8=D.sl
 a 9 b c∧Once (D.cells (D.ag (yP 6 (D.cells d) (D.cells (D.ag (yP 4 (D.cells x) (D.cells (D.ag cs))))))))∧Dis (D.sl a 9 b c) []∧∀ g,f≤g→MC
 prog 45 (D.sl a 9 b c) e g (fun a b c=>g≤c→∀ e,c≤e→QM b (D.ag (yP 8 [a] (D.cells (D.ag (yP 6 (D.cells d) (D.cells (D.ag
 (yP 4 (D.cells x) (D.cells (D.ag cs)))))))))) e))))
   (hQ:∀ k x N,QM k x N→∃ cs2,x=.ag cs2∧cs2.map D.cv=cs.map D.cv∧zB cs2=zB cs∧R (.ag cs2) k N):MC prog 14 (.ag cs) n1 N R:=
  zQU (sh:=sh) (H:=zCj) (fuel:=400) (xr:=(2,34)) (by kernel_rfl) (by kernel_rfl) (by kernel_rfl) hag h hQ
theorem qb (Q:QT [.int .i64]) (N0:Nat) (a0:Option Addr) (e0:List D) (c0:Nat) (n1 n5:Int) (N:Nat) (h :
Br (decide (n5<(e0.length:Int))) ((0≤n5∧n5<(e0.length:Int))∧False) (∀ a,N≤a→Q n1 a)):uG Q N0 a0 e0 c0 n1 n5 N:=
 hE (H:=xU) (by kernel_rfl) h
theorem wm (T:List Nat) (b0:Nat) (QM:Int→D→Nat→Prop) (N0:Nat) (m0 c0:Nat) (n1 n5:Int) (t0:Nat) (r0:List D) (q0:Nat) (N:Nat) (h :
Br (decide (n5<(m0:Int))) ((0≤n5∧n5<(m0:Int)∧(0+n5.toNat:Nat)<r0.length)∧(0+n5.toNat:Nat)<r0.length∧(0≤n5∧n5<(m0:Int)∧(0
 + n5.toNat:Nat)<(List.set r0 (0+n5.toNat:Nat) (D.ag (yP 0 [D.lit (.int .i64 n1)] (D.cells (List.getD r0 (0+n5.toNat:Nat) default))))).length)∧(0
 + n5.toNat:Nat)<(List.set r0 (0+n5.toNat:Nat) (D.ag (yP 0 [D.lit (.int .i64 n1)] (D.cells (List.getD r0 (0+n5.toNat:Nat) default))))).length∧∃ a
 b,∃ c:Nat,D.cell (List.getD (List.set r0 (0+n5.toNat:Nat) (D.ag (yP 0 [D.lit (.int .i64 n1)] (D.cells (List.getD r0 (0+n5.toNat:Nat) default)))))
 (0+n5.toNat:Nat) default) 1=D.sl a 2 b c∧Tree (D.sl a 2 b c)∧In T (D.sl a 2 b c)∧(0+n5.toNat:Nat)<(List.set r0 (0+n5.toNat:Nat) (D.ag (yP
 0 [D.lit (.int .i64 n1)] (D.cells (List.getD r0 (0+n5.toNat:Nat) default))))).length∧1<(D.cells (List.getD (List.set r0 (0+n5.toNat:Nat) (D.ag (yP
 0 [D.lit (.int .i64 n1)] (D.cells (List.getD r0 (0+n5.toNat:Nat) default))))) (0+n5.toNat:Nat) default)).length∧D.cell (List.getD (List.set r0 (0+n5.toNat
 : Nat) (D.ag (yP 0 [D.lit (.int .i64 n1)] (D.cells (List.getD r0 (0+n5.toNat:Nat) default))))) (0+n5.toNat:Nat) default) 1=D.sl a 2 b c∧Once (List.set
 r0 (0+n5.toNat:Nat) (D.ag (yP 0 [D.lit (.int .i64 n1)] (D.cells (List.getD r0 (0+n5.toNat:Nat) default)))))∧Dis (D.sl a 2 b c) []∧∀ d,N≤d →
 MC prog 82 (D.sl a 2 b c) (IntKind.i64.wrap (n1+1)) d (fun x n a=>d≤a→yH T b0 QM N0 m0 c0 n (IntKind.i64.wrap (n5+1)) t0 (List.set
 (List.set r0 (0+n5.toNat:Nat) (D.ag (yP 0 [D.lit (.int .i64 n1)] (D.cells (List.getD r0 (0+n5.toNat:Nat) default))))) (0+n5.toNat:Nat) (D.ag (yP
 1 [x] (D.cells (List.getD (List.set r0 (0+n5.toNat:Nat) (D.ag (yP 0 [D.lit (.int .i64 n1)] (D.cells (List.getD r0 (0+n5.toNat:Nat) default))))) (0+n5.toNat
 : Nat) default))))) q0 a)) (b0=b0∧∀ a,N≤a→QM n1 (D.ag r0) a)):yH T b0 QM N0 m0 c0 n1 n5 t0 r0 q0 N:=
  hE (H:=xU) (by kernel_rfl) h
theorem uQ (Q:QT [.int .i64]) (N0:Nat) (a0:Option Addr) (e0:List D) (c0:Nat) (n1 n5:Int) (N:Nat) (h :
Br (decide (n5<(e0.length:Int))) ((0≤n5∧n5<(e0.length:Int))∧∃ n:Int,(if 0=0 then D.cell (List.getD e0 n5.toNat default) 0 else D.sub (List.getD
 e0 n5.toNat default) 0 0)=D.lit (.int .i64 n)∧Br (bne n n1) (∀ a,N≤a→Q (-1) a) ((0≤n5∧n5<(e0.length:Int))∧∃ a b,∃ c:Nat,(if 0=0 then
 D.cell (List.getD e0 n5.toNat default) 1 else D.sub (List.getD e0 n5.toNat default) 1 0)=D.sl a 2 b c∧∀ d,N≤d→ACalls prog 84 [.int .i64] [.sv a 2 b
 c,.int .i64 (IntKind.i64.wrap (n1+1))] d (fun a b=>d≤b→Br (decide (a<0)) (∀ a,b≤a→Q (-1) a) (yn Q N0 a0 e0 c0
 a (IntKind.i64.wrap (n5+1)) b)))) (∀ a,N≤a→Q n1 a)):yn Q N0 a0 e0 c0 n1 n5 N:=
  hE (H:=tC) (by kernel_rfl) h
theorem uh (Q:QT [.str]) (N0:Nat) (n0:Int) (s3:ByteArray) (N:Nat) (h :
Br (decide (n0>0)) ((10:Int)≠(0:Int)∧1≤([D.lit (.int IntKind.u8 (IntKind.u8.wrap (IntKind.i64.wrap (48+Int.tmod n0 10))))]).length∧∃ a:List Int,
 List.take 1 [D.lit (.int IntKind.u8 (IntKind.u8.wrap (IntKind.i64.wrap (48+Int.tmod n0 10))))]=List.map (fun n=>D.lit (.int IntKind.u8 n)) a∧(ByteArray.size
 (bytesOf a)+s3.size:Nat)≤9223372036854775807∧(10:Int)≠(0:Int)∧yz Q N0 (IntKind.i64.wrap (Int.tdiv n0 10)) (bytesOf a++s3) N) ((1
 + s3.size:Nat)≤9223372036854775807∧∀ a,N≤a→Q (bytes [109]++s3) a)):yz Q N0 n0 s3 N:=
  hE (H:=sW) (by kernel_rfl) h
theorem qv (Q:QT [.int .i64]) (N0:Nat) (a0:Option Addr) (e0:List D) (c0:Nat) (n1 n5:Int) (N:Nat) (h :
Br (decide (n5<(e0.length:Int))) ((0≤n5∧n5<(e0.length:Int))∧False) (∀ a,N≤a→Q n1 a)):uC Q N0 a0 e0 c0 n1 n5 N:=
 hE (H:=xV) (by kernel_rfl) h
theorem wh (T:List Nat) (b0:Nat) (QM:Int→D→Nat→Prop) (N0:Nat) (m0 c0:Nat) (n1 n5:Int) (t0:Nat) (r0:List D) (q0:Nat) (N:Nat) (h :
let b:List D:=(List.set r0 (0+n5.toNat:Nat) (D.ag (yP 0 [D.lit (.int .i64 n1)] (D.cells (List.getD r0 (0+n5.toNat:Nat) default)))));Br (decide (n5
 < (m0:Int))) ((0≤n5∧n5<(m0:Int)∧(0+n5.toNat:Nat)<r0.length)∧(0+n5.toNat:Nat)<r0.length∧∀ d,N≤d→ACalls prog 83 [.str] [.int .i64
 (IntKind.i64.wrap (n1+1))] d (fun s=>let e:List D:=(List.set b (0+n5.toNat:Nat) (D.ag (yP 1 [D.lit (.string s)] (D.cells (List.getD b (0 +
 n5.toNat:Nat) default)))));fun f=>d≤f→(0≤n5∧n5<(m0:Int)∧(0+n5.toNat:Nat)<b.length)∧(0+n5.toNat:Nat)<b.length∧∀ b,
 f≤b→ACalls prog 83 [.str] [.int .i64 (IntKind.i64.wrap (IntKind.i64.wrap (n1+1)+1))] b (fun d=>let d:List D:=(List.set e (0+n5.toNat
 : Nat) (D.ag (yP 2 [D.lit (.string d)] (D.cells (List.getD e (0+n5.toNat:Nat) default)))));let f:List D:=(List.set d (0+n5.toNat:Nat) (D.ag
 (yP 3 [D.lit (.int .i64 (IntKind.i64.wrap (IntKind.i64.wrap (IntKind.i64.wrap (n1+1)+1)+1)))] (D.cells (List.getD d (0+n5.toNat:Nat) default)))));
 let g:List D:=(List.set f (0+n5.toNat:Nat) (D.ag (yP 4 [D.lit (.int .i64 (IntKind.i64.wrap (IntKind.i64.wrap (IntKind.i64.wrap (IntKind.i64.wrap (n1
 + 1)+1)+1)+1)))] (D.cells (List.getD f (0+n5.toNat:Nat) default)))));fun h=>b≤h→(0≤n5∧n5<(m0:Int)∧(0+n5.toNat:Nat)<e.length)
 ∧ (0+n5.toNat:Nat)<e.length∧(0≤n5∧n5<(m0:Int)∧(0+n5.toNat:Nat)<d.length)∧(0+n5.toNat:Nat)<d.length∧(0≤n5∧n5<(m0:Int)
 ∧ (0+n5.toNat:Nat)<f.length)∧(0+n5.toNat:Nat)<f.length∧(0≤n5∧n5<(m0:Int)∧(0+n5.toNat:Nat)<g.length)∧(0+n5.toNat:Nat)
 < g.length∧∃ a b,∃ c:Nat,D.cell (List.getD g (0+n5.toNat:Nat) default) 5=D.sl a 2 b c∧Tree (D.sl a 2 b c)∧In T (D.sl a 2 b c)∧(0+n5.toNat
 : Nat)<g.length∧5<(D.cells (List.getD g (0+n5.toNat:Nat) default)).length∧D.cell (List.getD g (0+n5.toNat:Nat) default) 5=D.sl a 2 b c ∧
 Once g∧Dis (D.sl a 2 b c) []∧∀ d,h≤d→MC prog 82 (D.sl a 2 b c) (IntKind.i64.wrap (IntKind.i64.wrap (IntKind.i64.wrap (IntKind.i64.wrap (IntKind.i64.wrap
 (n1+1)+1)+1)+1)+1)) d (fun x=>let a:List D:=(List.set g (0+n5.toNat:Nat) (D.ag (yP 5 [x] (D.cells (List.getD g (0+n5.toNat:Nat)
 default)))));fun n=>let b:List D:=(List.set a (0+n5.toNat:Nat) (D.ag (yP 6 [D.lit (.int .i64 n)] (D.cells (List.getD a (0+n5.toNat:Nat) default)))));
 fun c=>d≤c→(0≤n5∧n5<(m0:Int)∧(0+n5.toNat:Nat)<a.length)∧(0+n5.toNat:Nat)<a.length∧(0≤n5∧n5<(m0:Int)∧(0+n5.toNat
 : Nat)<b.length)∧(0+n5.toNat:Nat)<b.length∧∃ a d,∃ e:Nat,D.cell (List.getD b (0+n5.toNat:Nat) default) 7=D.sl a 2 d e ∧
 Tree (D.sl a 2 d e)∧In T (D.sl a 2 d e)∧(0+n5.toNat:Nat)<b.length∧7<(D.cells (List.getD b (0+n5.toNat:Nat) default)).length ∧
 D.cell (List.getD b (0+n5.toNat:Nat) default) 7=D.sl a 2 d e∧Once b∧Dis (D.sl a 2 d e) []∧∀ f,c≤f→MC prog 82 (D.sl a 2
 d e) (IntKind.i64.wrap (n+1)) f (fun a=>let a:List D:=(List.set b (0+n5.toNat:Nat) (D.ag (yP 7 [a] (D.cells (List.getD b (0+n5.toNat
 : Nat) default)))));fun b c=>f≤c→(0≤n5∧n5<(m0:Int)∧(0+n5.toNat:Nat)<a.length)∧(0+n5.toNat:Nat)<a.length∧∃ d e,
 ∃ f:Nat,D.cell (List.getD a (0+n5.toNat:Nat) default) 8=D.sl d 9 e f∧Tree (D.sl d 9 e f)∧In T (D.sl d 9 e f)∧(0+n5.toNat
 : Nat)<a.length∧8<(D.cells (List.getD a (0+n5.toNat:Nat) default)).length∧D.cell (List.getD a (0+n5.toNat:Nat) default) 8=D.sl d 9 e
 f∧Once a∧Dis (D.sl d 9 e f) []∧∀ g,c≤g→MC prog 45 (D.sl d 9 e f) b g (fun b c d=>g≤d→zl
 T b0 QM N0 m0 c0 c (IntKind.i64.wrap (n5+1)) t0 (List.set a (0+n5.toNat:Nat) (D.ag (yP 8 [b] (D.cells (List.getD a (0+n5.toNat:Nat) default)))))
 q0 d)))))) (b0=b0∧∀ a,N≤a→QM n1 (D.ag r0) a)):zl T b0 QM N0 m0 c0 n1 n5 t0 r0 q0 N:=
  hE (H:=xV) (by kernel_rfl) h
end Go.Proofs.YtnpjpplbkoammaaGreatDoor
set_option maxRecDepth 100000
namespace Go.Proofs.YtnpjpplbkoammaaGreatDoor
open Go Go.Proofs Go.Proofs.Tryz
def zFN:Hint:=⟨[],[],[]⟩
def ro:Hint:=⟨[hc 4 [0,1,5]],[],[(6,[en 0,en 1,en 2,en 3,en 4,en 5,en 6,en 7,ec 8 [20,24],en 9])]⟩
def zFS:Hint:=⟨[],[],[(9,hs 6 [ec 4 [26,28]]),(11,hs 6 [ec 4 [32,34]])]⟩
def rQ:Hint:=⟨[hc 4 [0,1,5]],[],[(6,[en 0,en 1,en 2,en 3,en 4,en 5,en 6,en 7,ec 8 [20,24],en 9])]⟩
def xY (Q:QT [.bool]) (N0:Nat) (a0:Option Addr) (e0:List D) (c0:Nat) (a1:Option Addr) (e1:List D) (c1:Nat) (n5:Int) (N:Nat):Prop:=AT prog 81 [.bool] Q N0 .ord (zF prog 81 4) ⟨.sv a0 2 e0 c0::.sv a1 2 e1 c1::an 3 (.int .i64 n5::an 21 []),[],N,none⟩
def xW (Q:QT [.bool]) (N0:Nat) (a0:Option Addr) (e0:List D) (c0:Nat) (a1:Option Addr) (e1:List D) (c1:Nat) (n5:Int) (N:Nat):Prop:=AT prog 43 [.bool] Q N0 .ord (zF prog 43 4) ⟨.sv a0 9 e0 c0::.sv a1 9 e1 c1::an 3 (.int .i64 n5::an 21 []),[],N,none⟩
theorem zE2 (N:Nat) (x0 x1:D) (Q:QT [.bool]) (h :
Bel N x0→Bel N x1→∃ n:Int,(x0.cell 0)=D.lit (.int .i64 n)∧∃ d:Int,(x1.cell 0)=D.lit (.int .i64 d)∧Br (bne n d) (∀ a,N≤a→Q false
 a) (∃ a d,∃ c:Nat,(x0.cell 1)=D.sl a 2 d c∧∃ e f,∃ g:Nat,(x1.cell 1)=D.sl e 2 f g∧∀ h,N≤h→ACalls prog 81 [.bool] [.sv
 a 2 d c,.sv e 2 f g] h (fun b a=>h≤a→Br (!b) (∀ b,a≤b→Q false b) (∀ b,a≤b→Q true b)))):ACalls prog 42 [.bool] [PV.dg 2 x0,PV.dg 2 x1] N Q:=
  eE (H:=zFN) (by kernel_rfl) (by kernel_rfl) h
theorem zDb (N:Nat) (a0:Option Addr) (e0:List D) (c0:Nat) (a1:Option Addr) (e1:List D) (c1:Nat) (Q:QT [.bool]) (h :
Bel N (D.sl a0 2 e0 c0)→Bel N (D.sl a1 2 e1 c1)→Br (bne (e0.length:Int) (e1.length:Int)) (∀ a,N≤a→Q false a) (xY Q N a0 e0 c0 a1
 e1 c1 0 N)):ACalls prog 81 [.bool] [PV.sv a0 2 e0 c0,PV.sv a1 2 e1 c1] N Q:=
  eE (H:=ro) (by kernel_rfl) (by kernel_rfl) h
theorem zFc (N:Nat) (x0 x1:D) (Q:QT [.bool]) (h :
Bel N x0→Bel N x1→∃ n:Int,(x0.cell 0)=D.lit (.int .i64 n)∧∃ d:Int,(x1.cell 0)=D.lit (.int .i64 d)∧Br (bne n d) (∀ a,N≤a→Q false
 a) (∃ s,(x0.cell 1)=D.lit (.string s)∧∃ d,(x1.cell 1)=D.lit (.string d)∧Br (!(ByteArray.toList s==ByteArray.toList d)) (∀ a,N≤a→Q false
 a) (∃ d,(x0.cell 2)=D.lit (.string d)∧∃ e,(x1.cell 2)=D.lit (.string e)∧Br (!(ByteArray.toList d==ByteArray.toList e)) (∀ a,N≤a
 → Q false a) (∃ d:Int,(x0.cell 3)=D.lit (.int .i64 d)∧∃ e:Int,(x1.cell 3)=D.lit (.int .i64 e)∧Br (bne d e) (∀ a,N≤a→Q false
 a) (∀ d,N≤d→ACalls prog 42 [.bool] [.dg 2 (D.sub x0 4 2),.dg 2 (D.sub x1 4 2)] d (fun b e=>d≤e→Br (!b) (∀ a,e≤a→Q false a)
 (∀ b,e≤b→ACalls prog 42 [.bool] [.dg 2 (D.sub x0 6 2),.dg 2 (D.sub x1 6 2)] b (fun d e=>b≤e→Br (!d) (∀ a,e≤a→Q false a)
 (∃ a b,∃ c:Nat,(x0.cell 8)=D.sl a 9 b c∧∃ d f,∃ g:Nat,(x1.cell 8)=D.sl d 9 f g∧∀ h,e≤h→ACalls prog 43 [.bool] [.sv a
 9 b c,.sv d 9 f g] h (fun a b=>h≤b→Br (!a) (∀ a,b≤a→Q false a) (∀ a,b≤a→Q true a))))))))))):ACalls prog 13 [.bool] [PV.dg 9 x0,PV.dg 9 x1] N Q:=
  eE (H:=zFS) (by kernel_rfl) (by kernel_rfl) h
theorem zDJ (N:Nat) (a0:Option Addr) (e0:List D) (c0:Nat) (a1:Option Addr) (e1:List D) (c1:Nat) (Q:QT [.bool]) (h :
Bel N (D.sl a0 9 e0 c0)→Bel N (D.sl a1 9 e1 c1)→Br (bne (e0.length:Int) (e1.length:Int)) (∀ a,N≤a→Q false a) (xW Q N a0 e0 c0 a1
 e1 c1 0 N)):ACalls prog 43 [.bool] [PV.sv a0 9 e0 c0,PV.sv a1 9 e1 c1] N Q:=
  eE (H:=rQ) (by kernel_rfl) (by kernel_rfl) h
theorem tG (Q:QT [.bool]) (N0:Nat) (a0:Option Addr) (e0:List D) (c0:Nat) (a1:Option Addr) (e1:List D) (c1:Nat) (n5:Int) (N:Nat) (h :
Br (decide (n5<(e0.length:Int))) ((0≤n5∧n5<(e0.length:Int))∧(0≤n5∧n5<(e1.length:Int))∧∀ a,N≤a→ACalls prog 42 [.bool] [.dg 2 (List.getD
 e0 n5.toNat default),.dg 2 (List.getD e1 n5.toNat default)] a (fun b c=>a≤c→Br (!b) (∀ a,c≤a→Q false a) (xY Q N0 a0 e0
 c0 a1 e1 c1 (IntKind.i64.wrap (n5+1)) c))) (∀ a,N≤a→Q true a)):xY Q N0 a0 e0 c0 a1 e1 c1 n5 N:=
  hE (H:=ro) (by kernel_rfl) h
theorem tV (Q:QT [.bool]) (N0:Nat) (a0:Option Addr) (e0:List D) (c0:Nat) (a1:Option Addr) (e1:List D) (c1:Nat) (n5:Int) (N:Nat) (h :
Br (decide (n5<(e0.length:Int))) ((0≤n5∧n5<(e0.length:Int))∧(0≤n5∧n5<(e1.length:Int))∧∀ a,N≤a→ACalls prog 13 [.bool] [.dg 9 (List.getD
 e0 n5.toNat default),.dg 9 (List.getD e1 n5.toNat default)] a (fun b c=>a≤c→Br (!b) (∀ a,c≤a→Q false a) (xW Q N0 a0 e0
 c0 a1 e1 c1 (IntKind.i64.wrap (n5+1)) c))) (∀ a,N≤a→Q true a)):xW Q N0 a0 e0 c0 a1 e1 c1 n5 N:=
  hE (H:=rQ) (by kernel_rfl) h
end Go.Proofs.YtnpjpplbkoammaaGreatDoor
set_option maxRecDepth 100000
namespace Go.Proofs.YtnpjpplbkoammaaGreatDoor
open Go Go.Proofs Go.Proofs.Tryz
end Go.Proofs.YtnpjpplbkoammaaGreatDoor
