/- Printed by gen.py: what the functions come to. -/
import Derived.Test.YtnpjpplbkoammaaGreatJh
set_option linter.unusedVariables false
set_option maxRecDepth 100000
namespace Go.Proofs.YtnpjpplbkoammaaGreat
open Go Go.Proofs Go.Proofs.Tryz
def zHH:Hint:=⟨[],[],[]⟩
def pj:Hint:=⟨[hc 5 [0,1,5]],[],[(7,hs 7 [ec 5 [21]])]⟩
def zGU:Hint:=⟨[],[],[(7,hs 5 [ec 3 [20]]),(10,hs 5 [ec 3 [26]])]⟩
def pU:Hint:=⟨[hc 5 [0,1,5]],[],[(7,hs 7 [ec 5 [21]])]⟩
def wg (Q:QT [.int .i64]) (N0:Nat) (a0:Option Addr) (e0:List D) (c0:Nat) (n1 n5:Int) (N:Nat):Prop:=AT prog 45 [.int .i64] Q N0 .ord (zD prog 45 5) ⟨.sv a0 2 e0 c0::.int .i64 n1::an 3 (.int .i64 n5::an 21 []),[],N,none⟩
def xP (Q:QT [.int .i64]) (N0:Nat) (a0:Option Addr) (e0:List D) (c0:Nat) (n1 n5:Int) (N:Nat):Prop:=AT prog 19 [.int .i64] Q N0 .ord (zD prog 19 5) ⟨.sv a0 9 e0 c0::.int .i64 n1::an 3 (.int .i64 n5::an 21 []),[],N,none⟩
theorem zGz (N:Nat) (x0:D) (n1:Int) (Q:QT [.int .i64]) (h :
Bel N x0→∃ a b,∃ c:Nat,(x0.cell 1)=D.sl a 2 b c∧∀ d,N≤d→ACalls prog 45 [.int .i64] [.sv a 2 b c,.int .i64 n1] d (fun n a=>d≤a
 → Br (decide (n<0)) (∀ b,a≤b→Q (-1) b) (∀ b,a≤b→Q n b))):ACalls prog 18 [.int .i64] [PV.dg 2 x0,PV.int .i64 n1] N Q:=
  eE (H:=zHH) (by kernel_rfl) (by kernel_rfl) h
theorem zFg (N:Nat) (a0:Option Addr) (e0:List D) (c0:Nat) (n1:Int) (Q:QT [.int .i64]) (h :
Bel N (D.sl a0 2 e0 c0)→Br (decide (IntKind.i64.wrap (n1 - (e0.length:Int))<0)) (∀ a,N≤a→Q (-1) a) (wg Q N a0 e0 c0 (IntKind.i64.wrap
 (n1 - (e0.length:Int))) 0 N)):ACalls prog 45 [.int .i64] [PV.sv a0 2 e0 c0,PV.int .i64 n1] N Q:=
  eE (H:=pj) (by kernel_rfl) (by kernel_rfl) h
theorem zGP (N:Nat) (x0:D) (n1:Int) (Q:QT [.int .i64]) (h :
Bel N x0→∃ s,(x0.cell 1)=D.lit (.string s)∧Br (decide (IntKind.i64.wrap (n1 - (s.size:Int))<0)) (∀ a,N≤a→Q (-1) a) (∃ b,(x0.cell 2)=D.lit
 (.string b)∧Br (decide (IntKind.i64.wrap (IntKind.i64.wrap (n1 - (s.size:Int)) - (b.size:Int))<0)) (∀ a,N≤a→Q (-1) a) (∀ d,N≤d→ACalls
 prog 18 [.int .i64] [.dg 2 (D.sub x0 4 2),.int .i64 (IntKind.i64.wrap (IntKind.i64.wrap (n1 - (s.size:Int)) - (b.size:Int)))] d (fun n b=>d≤b
 → Br (decide (n<0)) (∀ a,b≤a→Q (-1) a) (∀ d,b≤d→ACalls prog 18 [.int .i64] [.dg 2 (D.sub x0 6 2),.int .i64 n] d (fun b e=>d
 ≤ e→Br (decide (b<0)) (∀ a,e≤a→Q (-1) a) (∃ a d,∃ c:Nat,(x0.cell 8)=D.sl a 9 d c∧∀ f,e≤f→ACalls prog 19 [.int .i64] [.sv
 a 9 d c,.int .i64 b] f (fun a b=>f≤b→Br (decide (a<0)) (∀ a,b≤a→Q (-1) a) (∀ c,b≤c→Q a c))))))))):ACalls prog 5 [.int .i64] [PV.dg 9 x0,PV.int .i64 n1] N Q:=
  eE (H:=zGU) (by kernel_rfl) (by kernel_rfl) h
theorem zFK (N:Nat) (a0:Option Addr) (e0:List D) (c0:Nat) (n1:Int) (Q:QT [.int .i64]) (h :
Bel N (D.sl a0 9 e0 c0)→Br (decide (IntKind.i64.wrap (n1 - (e0.length:Int))<0)) (∀ a,N≤a→Q (-1) a) (xP Q N a0 e0 c0 (IntKind.i64.wrap
 (n1 - (e0.length:Int))) 0 N)):ACalls prog 19 [.int .i64] [PV.sv a0 9 e0 c0,PV.int .i64 n1] N Q:=
  eE (H:=pU) (by kernel_rfl) (by kernel_rfl) h
theorem rD (Q:QT [.int .i64]) (N0:Nat) (a0:Option Addr) (e0:List D) (c0:Nat) (n1 n5:Int) (N:Nat) (h :
Br (decide (n5<(e0.length:Int))) ((0≤n5∧n5<(e0.length:Int))∧∀ a,N≤a→ACalls prog 18 [.int .i64] [.dg 2 (List.getD e0 n5.toNat default),.int
 .i64 n1] a (fun n b=>a≤b→Br (decide (n<0)) (∀ a,b≤a→Q (-1) a) (wg Q N0 a0 e0 c0 n (IntKind.i64.wrap (n5+1)) b))) (∀
 a,N≤a→Q n1 a)):wg Q N0 a0 e0 c0 n1 n5 N:=
  hE (H:=pj) (by kernel_rfl) h
theorem rJ (Q:QT [.int .i64]) (N0:Nat) (a0:Option Addr) (e0:List D) (c0:Nat) (n1 n5:Int) (N:Nat) (h :
Br (decide (n5<(e0.length:Int))) ((0≤n5∧n5<(e0.length:Int))∧∀ a,N≤a→ACalls prog 5 [.int .i64] [.dg 9 (List.getD e0 n5.toNat default),.int
 .i64 n1] a (fun n b=>a≤b→Br (decide (n<0)) (∀ a,b≤a→Q (-1) a) (xP Q N0 a0 e0 c0 n (IntKind.i64.wrap (n5+1)) b))) (∀
 a,N≤a→Q n1 a)):xP Q N0 a0 e0 c0 n1 n5 N:=
  hE (H:=pU) (by kernel_rfl) h
end Go.Proofs.YtnpjpplbkoammaaGreat
set_option maxRecDepth 100000
namespace Go.Proofs.YtnpjpplbkoammaaGreat
open Go Go.Proofs Go.Proofs.Tryz
def zGp:Hint:=⟨[],[],[]⟩
def pq:Hint:=⟨[hc 3 [0,3,4]],[],[(5,hs 9 [ec 6 [19]])]⟩
def zGy:Hint:=⟨[],[],[(6,hs 5 [ec 2 [17]]),(7,hs 5 [ec 2 [21]])]⟩
def po:Hint:=⟨[hc 3 [0,3,4]],[],[(5,hs 9 [ec 6 [19]])]⟩
def wY (Q:QT [.sl 2]) (N0:Nat) (a0:Option Addr) (e0:List D) (c0 m3 c3:Nat) (n4:Int) (r0:List D) (q0:Nat) (N:Nat):Prop:=AT prog 55 [.sl 2] Q N0 .ord (zD prog 55 3) ⟨.sv a0 2 e0 c0::an 2 (.sb 0 2 0 m3 c3::.int .i64 n4::an 18 []),[.arr 37 2 r0 q0],N,none⟩
def wX (Q:QT [.sl 9]) (N0:Nat) (a0:Option Addr) (e0:List D) (c0 m3 c3:Nat) (n4:Int) (r0:List D) (q0:Nat) (N:Nat):Prop:=AT prog 29 [.sl 9] Q N0 .ord (zD prog 29 3) ⟨.sv a0 9 e0 c0::an 2 (.sb 0 9 0 m3 c3::.int .i64 n4::an 18 []),[.arr 39 9 r0 q0],N,none⟩
theorem zHU (N:Nat) (x0:D) (Q:QT [.ag 2]) (h :
Bel N x0→∃ n:Int,(x0.cell 0)=D.lit (.int .i64 n)∧∃ a b,∃ c:Nat,(x0.cell 1)=D.sl a 2 b c∧∀ d,N≤d→ACalls prog 55 [.sl 2] [.sv a 2 b c]
 d (fun a b c e=>d≤e→Bel e (D.sl a 2 b c)→∀ d,e≤d→Q (D.ag [D.lit (.int .i64 n),D.sl a 2 b c]) d)):ACalls prog 28 [.ag 2] [PV.dg 2 x0] N Q:=
  eE (H:=zGp) (by kernel_rfl) (by kernel_rfl) h
theorem zFI (N:Nat) (a0:Option Addr) (e0:List D) (c0:Nat) (Q:QT [.sl 2]) (h :
Bel N (D.sl a0 2 e0 c0)→(0≤(e0.length:Int)∧(e0.length:Int)≤(e0.length:Int)∧(32*(e0.length:Int))≤140737488355328∧(e0.length:Int)≤9223372036854775807)
 ∧ wY Q N a0 e0 c0 ((e0.length:Int)).toNat ((e0.length:Int)).toNat 0 (List.replicate ((e0.length:Int)).toNat (D.ag [D.lit (.int .i64 0),D.sl
 Option.none 2 [] 0])) ((e0.length:Int)).toNat N):ACalls prog 55 [.sl 2] [PV.sv a0 2 e0 c0] N Q:=
  eE (H:=pq) (by kernel_rfl) (by kernel_rfl) h
theorem zHP (N:Nat) (x0:D) (Q:QT [.ag 9]) (h :
Bel N x0→∃ n:Int,(x0.cell 0)=D.lit (.int .i64 n)∧∃ s,(x0.cell 1)=D.lit (.string s)∧∃ b,(x0.cell 2)=D.lit (.string b)∧∃ d:Int,(x0.cell
 3)=D.lit (.int .i64 d)∧∀ e,N≤e→ACalls prog 28 [.ag 2] [.dg 2 (D.sub x0 4 2)] e (fun x f=>e≤f→Bel f x→∀ e,f≤e→ACalls prog
 28 [.ag 2] [.dg 2 (D.sub x0 6 2)] e (fun f g=>e≤g→Bel g f→∃ a e,∃ c:Nat,(x0.cell 8)=D.sl a 9 e c∧∀ h,g≤h→ACalls prog 29
 [.sl 9] [.sv a 9 e c] h (fun a c e g=>h≤g→Bel g (D.sl a 9 c e)→∀ h,g≤h→Q (D.ag [D.lit (.int .i64 n),D.lit (.string s),
 D.lit (.string b),D.lit (.int .i64 d),(x.cell 0),(x.cell 1),(f.cell 0),(f.cell 1),D.sl a 9 c e]) h)))):ACalls prog 8 [.ag 9] [PV.dg 9 x0] N Q:=
  eE (H:=zGy) (by kernel_rfl) (by kernel_rfl) h
theorem zE3 (N:Nat) (a0:Option Addr) (e0:List D) (c0:Nat) (Q:QT [.sl 9]) (h :
Bel N (D.sl a0 9 e0 c0)→(0≤(e0.length:Int)∧(e0.length:Int)≤(e0.length:Int)∧(136*(e0.length:Int))≤140737488355328∧(e0.length:Int)≤9223372036854775807)
 ∧ wX Q N a0 e0 c0 ((e0.length:Int)).toNat ((e0.length:Int)).toNat 0 (List.replicate ((e0.length:Int)).toNat (D.ag [D.lit (.int .i64 0),D.lit
 (.string (bytes [])),D.lit (.string (bytes [])),D.lit (.int .i64 0),D.lit (.int .i64 0),D.sl Option.none 2 [] 0,D.lit (.int .i64 0),D.sl Option.none 2 [] 0,
 D.sl Option.none 9 [] 0])) ((e0.length:Int)).toNat N):ACalls prog 29 [.sl 9] [PV.sv a0 9 e0 c0] N Q:=
  eE (H:=po) (by kernel_rfl) (by kernel_rfl) h
theorem rI (Q:QT [.sl 2]) (N0:Nat) (a0:Option Addr) (e0:List D) (c0 m3 c3:Nat) (n4:Int) (r0:List D) (q0:Nat) (N:Nat) (h :
Br (decide (n4<(e0.length:Int))) ((0≤n4∧n4<(e0.length:Int))∧∀ a,N≤a→ACalls prog 28 [.ag 2] [.dg 2 (List.getD e0 n4.toNat default)] a (fun
 x b=>a≤b→Bel b x→(0≤n4∧n4<(m3:Int)∧(0+n4.toNat:Nat)<r0.length)∧(0+n4.toNat:Nat)<r0.length∧wY Q N0 a0 e0 c0
 m3 c3 (IntKind.i64.wrap (n4+1)) (List.set r0 (0+n4.toNat:Nat) x) q0 b)) ((m3=r0.length∧c3=q0)∧(m3=r0.length∧c3=q0)∧(m3=r0.length∧c3 =
 q0)∧∀ a b,N≤b→Fresh N0 b a [D.ag r0]→∀ c,b≤c→Q a r0 q0 c)):wY Q N0 a0 e0 c0 m3 c3 n4 r0 q0 N:=
  hE (H:=pq) (by kernel_rfl) h
theorem s9 (Q:QT [.sl 9]) (N0:Nat) (a0:Option Addr) (e0:List D) (c0 m3 c3:Nat) (n4:Int) (r0:List D) (q0:Nat) (N:Nat) (h :
Br (decide (n4<(e0.length:Int))) ((0≤n4∧n4<(e0.length:Int))∧∀ a,N≤a→ACalls prog 8 [.ag 9] [.dg 9 (List.getD e0 n4.toNat default)] a (fun
 x b=>a≤b→Bel b x→(0≤n4∧n4<(m3:Int)∧(0+n4.toNat:Nat)<r0.length)∧(0+n4.toNat:Nat)<r0.length∧wX Q N0 a0 e0 c0
 m3 c3 (IntKind.i64.wrap (n4+1)) (List.set r0 (0+n4.toNat:Nat) x) q0 b)) ((m3=r0.length∧c3=q0)∧(m3=r0.length∧c3=q0)∧(m3=r0.length∧c3 =
 q0)∧∀ a b,N≤b→Fresh N0 b a [D.ag r0]→∀ c,b≤c→Q a r0 q0 c)):wX Q N0 a0 e0 c0 m3 c3 n4 r0 q0 N:=
  hE (H:=po) (by kernel_rfl) h
end Go.Proofs.YtnpjpplbkoammaaGreat
set_option maxRecDepth 100000
namespace Go.Proofs.YtnpjpplbkoammaaGreat
open Go Go.Proofs Go.Proofs.Tryz
def wU:Hint:=⟨[hc 2 [0,1,5]],[],[(6,hs 8 [em 6 (some 22) [0,1,5]])]⟩
def zDL:Hint:=⟨[],[],[(1,hs 5 [em 3 (some 5) [1]])]⟩
def rA:Hint:=⟨[hc 2 [0,1,5]],[],[]⟩
def rh:Hint:=⟨[hc 4 [0,3]],[],[]⟩
def wc:Hint:=⟨[hc 2 [0,1,5]],[],[(14,hs 9 [em 7 (some 54) [0,1,5]]),(17,hs 9 [em 7 (some 70) [0,1,5]]),(18,hs 8 [em 6 (some 77) [0,1,5]])]⟩
def zDO:Hint:=⟨[],[],[(1,hs 5 [em 3 (some 5) [1,2]]),(2,hs 5 [em 3 (some 9) [1,2]]),(3,hs 5 [em 3 (some 13) [1]])]⟩
def tL (Q:QT [.int .i64]) (N0:Nat) (a0:Option Addr) (e0:List D) (c0:Nat) (n1 n5:Int) (N:Nat):Prop:=AT prog 42 [.int .i64] Q N0 .ord (zD prog 42 2) ⟨.sv a0 2 e0 c0::.int .i64 n1::an 3 (.int .i64 n5::an 21 []),[],N,none⟩
def yo (T:List Nat) (b0:Nat) (QM:Int→D→Nat→Prop) (N0:Nat) (m0 c0:Nat) (n1 n5:Int) (t0:Nat) (r0:List D) (q0:Nat) (N:Nat):Prop:=AT prog 42 [] noQ N0 (.mk T (some b0) (2,0) QM) (zD prog 42 2) ⟨.sb 0 2 0 m0 c0::.int .i64 n1::an 3 (.int .i64 n5::an 21 []),[.arr t0 2 r0 q0],N,some ([some b0],T)⟩
def xg (Q:QT [.int .i64]) (N0:Nat) (a0:Option Addr) (e0:List D) (c0:Nat) (n1 n5:Int) (N:Nat):Prop:=AT prog 44 [.int .i64] Q N0 .ord (zD prog 44 2) ⟨.sv a0 2 e0 c0::.int .i64 n1::an 3 (.int .i64 n5::an 25 []),[],N,none⟩
def xB (Q:QT [.str]) (N0:Nat) (n0:Int) (s3:ByteArray) (N:Nat):Prop:=AT prog 41 [.str] Q N0 .ord (zD prog 41 4) ⟨.int .i64 n0::an 2 (.str s3::an 16 []),[],N,none⟩
def tD (Q:QT [.int .i64]) (N0:Nat) (a0:Option Addr) (e0:List D) (c0:Nat) (n1 n5:Int) (N:Nat):Prop:=AT prog 15 [.int .i64] Q N0 .ord (zD prog 15 2) ⟨.sv a0 9 e0 c0::.int .i64 n1::an 3 (.int .i64 n5::an 76 []),[],N,none⟩
def yL (T:List Nat) (b0:Nat) (QM:Int→D→Nat→Prop) (N0:Nat) (m0 c0:Nat) (n1 n5:Int) (t0:Nat) (r0:List D) (q0:Nat) (N:Nat):Prop:=AT prog 15 [] noQ N0 (.mk T (some b0) (9,0) QM) (zD prog 15 2) ⟨.sb 0 9 0 m0 c0::.int .i64 n1::an 3 (.int .i64 n5::an 76 []),[.arr t0 9 r0 q0],N,some ([some b0],T)⟩
theorem zCf (N:Nat) (a0:Option Addr) (e0:List D) (c0:Nat) (n1:Int) (Q:QT [.int .i64]) (h :
Bel N (D.sl a0 2 e0 c0)→tL Q N a0 e0 c0 n1 0 N):ACalls prog 42 [.int .i64] [PV.sv a0 2 e0 c0,PV.int .i64 n1] N Q:=
 eE (H:=wU) (by kernel_rfl) (by kernel_rfl) h
theorem zCh (N:Nat) (ad:Addr) (e0:List D) (c0:Nat) (n1:Int) (R:D→Int→Nat→Prop) (QM:Int→D→Nat→Prop) (htree:Tree (.sl (some ad) 2 e0 c0)) (hne:e0≠[]) (hlen:e0.length≤maxLen) (h:∀ t:Nat,
yo (D.foot (D.sl (Option.some ad) 2 e0 c0)) (Addr.block ad) QM N e0.length c0 n1 0 t e0 e0.length N)
  (hQ:∀ k x N,QM k x N→∃ es,x=.ag es∧es.length=e0.length∧zB es=zB e0∧R (.sl (some ad) 2 es c0) k N):MC prog 42 (.sl (some ad) 2 e0 c0) n1 N R:=
 zRn (sh:=sh) (H:=wU) (fuel:=400) (by kernel_rfl) (by kernel_rfl) (fun t=>by kernel_rfl) htree hne hlen h hQ
theorem zEq (N:Nat) (cs:List D) (n1:Int) (R:D→Int→Nat→Prop) (QM:Int→D→Nat→Prop) (hag:IsAg 2 (.ag cs)) (h :
∃ a b,∃ c:Nat,D.cell (D.ag cs) 1=D.sl a 2 b c∧Tree (D.sl a 2 b c)∧In (D.foot (D.ag cs)) (D.sl a 2 b c)∧1<(D.cells (D.ag cs)).length∧D.cell (D.ag
 cs) 1=D.sl a 2 b c∧Once (D.cells (D.ag cs))∧Dis (D.sl a 2 b c) []∧∀ d,N≤d→MC prog 42 (D.sl a 2 b c) n1 d (fun x n a=>d≤a→∀ b,
 a ≤ b→QM n (D.ag (yc 1 [x] (D.cells (D.ag cs)))) b))
   (hQ:∀ k x N,QM k x N→∃ cs2,x=.ag cs2∧cs2.map D.cv=cs.map D.cv∧zB cs2=zB cs∧R (.ag cs2) k N):MC prog 43 (.ag cs) n1 N R:=
  zSE (sh:=sh) (H:=zDL) (fuel:=400) (xr:=(2,37)) (by kernel_rfl) (by kernel_rfl) (by kernel_rfl) hag h hQ
theorem zCp (N:Nat) (a0:Option Addr) (e0:List D) (c0:Nat) (n1:Int) (Q:QT [.int .i64]) (h :
Bel N (D.sl a0 2 e0 c0)→xg Q N a0 e0 c0 n1 0 N):ACalls prog 44 [.int .i64] [PV.sv a0 2 e0 c0,PV.int .i64 n1] N Q:=
 eE (H:=rA) (by kernel_rfl) (by kernel_rfl) h
theorem rq (N:Nat) (n0:Int) (Q:QT [.str]) (h :
Br (decide (n0≤0)) (∀ a,N≤a→Q (bytes [109,48]) a) (xB Q N n0 (bytes []) N)):ACalls prog 41 [.str] [PV.int .i64 n0] N Q:=
 eE (H:=rh) (by kernel_rfl) (by kernel_rfl) h
theorem zCo (N:Nat) (a0:Option Addr) (e0:List D) (c0:Nat) (n1:Int) (Q:QT [.int .i64]) (h :
Bel N (D.sl a0 9 e0 c0)→tD Q N a0 e0 c0 n1 0 N):ACalls prog 15 [.int .i64] [PV.sv a0 9 e0 c0,PV.int .i64 n1] N Q:=
 eE (H:=wc) (by kernel_rfl) (by kernel_rfl) h
theorem zC5 (N:Nat) (ad:Addr) (e0:List D) (c0:Nat) (n1:Int) (R:D→Int→Nat→Prop) (QM:Int→D→Nat→Prop) (htree:Tree (.sl (some ad) 9 e0 c0)) (hne:e0≠[]) (hlen:e0.length≤maxLen) (h:∀ t:Nat,
yL (D.foot (D.sl (Option.some ad) 9 e0 c0)) (Addr.block ad) QM N e0.length c0 n1 0 t e0 e0.length N)
  (hQ:∀ k x N,QM k x N→∃ es,x=.ag es∧es.length=e0.length∧zB es=zB e0∧R (.sl (some ad) 9 es c0) k N):MC prog 15 (.sl (some ad) 9 e0 c0) n1 N R:=
 zRn (sh:=sh) (H:=wc) (fuel:=400) (by kernel_rfl) (by kernel_rfl) (fun t=>by kernel_rfl) htree hne hlen h hQ
theorem zEh (N:Nat) (cs:List D) (n1:Int) (R:D→Int→Nat→Prop) (QM:Int→D→Nat→Prop) (hag:IsAg 9 (.ag cs)) (h :
Tree (D.sub (D.ag cs) 4 2)∧In (D.foot (D.ag cs)) (D.sub (D.ag cs) 4 2)∧6≤(D.cells (D.ag cs)).length∧D.sub (D.ag cs) 4 2=D.sub (D.ag cs) 4 2∧Once (D.cells
 (D.ag cs))∧Dis (D.sub (D.ag cs) 4 2) []∧∀ b,N≤b→MC prog 43 (D.sub (D.ag cs) 4 2) n1 b (fun x n d=>b≤d→Tree (D.sub (D.ag (yc 4 (D.cells
 x) (D.cells (D.ag cs)))) 6 2)∧In (D.foot (D.ag cs)) (D.sub (D.ag (yc 4 (D.cells x) (D.cells (D.ag cs)))) 6 2)∧8≤(D.cells (D.ag (yc 4 (D.cells x) (D.cells
 (D.ag cs))))).length∧D.sub (D.ag (yc 4 (D.cells x) (D.cells (D.ag cs)))) 6 2=D.sub (D.ag (yc 4 (D.cells x) (D.cells (D.ag cs)))) 6 2∧Once (D.cells (D.ag
 (yc 4 (D.cells x) (D.cells (D.ag cs)))))∧Dis (D.sub (D.ag (yc 4 (D.cells x) (D.cells (D.ag cs)))) 6 2) []∧∀ b,d≤b→MC prog 43 (D.sub (D.ag (yc
 4 (D.cells x) (D.cells (D.ag cs)))) 6 2) n b (fun d e f=>b≤f→∃ a b,∃ c:Nat,D.cell (D.ag (yc 6 (D.cells d) (D.cells (D.ag (yc 4 (D.cells
 x) (D.cells (D.ag cs))))))) 8=D.sl a 9 b c∧Tree (D.sl a 9 b c)∧In (D.foot (D.ag cs)) (D.sl a 9 b c)∧8<(D.cells (D.ag (yc 6 (D.cells d) (D.cells
 (D.ag (yc 4 (D.cells x) (D.cells (D.ag cs)))))))).length∧D.cell (D.ag (yc 6 (D.cells d) (D.cells (D.ag (yc 4 (D.cells x) (D.cells (D.ag cs))))))) 8=D.sl
 a 9 b c∧Once (D.cells (D.ag (yc 6 (D.cells d) (D.cells (D.ag (yc 4 (D.cells x) (D.cells (D.ag cs))))))))∧Dis (D.sl a 9 b c) []∧∀ g,f≤g→MC
 prog 15 (D.sl a 9 b c) e g (fun a b c=>g≤c→∀ e,c≤e→QM b (D.ag (yc 8 [a] (D.cells (D.ag (yc 6 (D.cells d) (D.cells (D.ag
 (yc 4 (D.cells x) (D.cells (D.ag cs)))))))))) e))))
   (hQ:∀ k x N,QM k x N→∃ cs2,x=.ag cs2∧cs2.map D.cv=cs.map D.cv∧zB cs2=zB cs∧R (.ag cs2) k N):MC prog 14 (.ag cs) n1 N R:=
  zSE (sh:=sh) (H:=zDO) (fuel:=400) (xr:=(2,39)) (by kernel_rfl) (by kernel_rfl) (by kernel_rfl) hag h hQ
theorem zAz (Q:QT [.int .i64]) (N0:Nat) (a0:Option Addr) (e0:List D) (c0:Nat) (n1 n5:Int) (N:Nat) (h :
Br (decide (n5<(e0.length:Int))) ((0≤n5∧n5<(e0.length:Int))∧False) (∀ a,N≤a→Q n1 a)):tL Q N0 a0 e0 c0 n1 n5 N:=
 hE (H:=wU) (by kernel_rfl) h
theorem vf (T:List Nat) (b0:Nat) (QM:Int→D→Nat→Prop) (N0:Nat) (m0 c0:Nat) (n1 n5:Int) (t0:Nat) (r0:List D) (q0:Nat) (N:Nat) (h :
Br (decide (n5<(m0:Int))) ((0≤n5∧n5<(m0:Int)∧(0+n5.toNat:Nat)<r0.length)∧(0+n5.toNat:Nat)<r0.length∧(0≤n5∧n5<(m0:Int)∧(0
 + n5.toNat:Nat)<(List.set r0 (0+n5.toNat:Nat) (D.ag (yc 0 [D.lit (.int .i64 n1)] (D.cells (List.getD r0 (0+n5.toNat:Nat) default))))).length)∧(0
 + n5.toNat:Nat)<(List.set r0 (0+n5.toNat:Nat) (D.ag (yc 0 [D.lit (.int .i64 n1)] (D.cells (List.getD r0 (0+n5.toNat:Nat) default))))).length∧∃ a
 b,∃ c:Nat,D.cell (List.getD (List.set r0 (0+n5.toNat:Nat) (D.ag (yc 0 [D.lit (.int .i64 n1)] (D.cells (List.getD r0 (0+n5.toNat:Nat) default)))))
 (0+n5.toNat:Nat) default) 1=D.sl a 2 b c∧Tree (D.sl a 2 b c)∧In T (D.sl a 2 b c)∧(0+n5.toNat:Nat)<(List.set r0 (0+n5.toNat:Nat) (D.ag (yc
 0 [D.lit (.int .i64 n1)] (D.cells (List.getD r0 (0+n5.toNat:Nat) default))))).length∧1<(D.cells (List.getD (List.set r0 (0+n5.toNat:Nat) (D.ag (yc
 0 [D.lit (.int .i64 n1)] (D.cells (List.getD r0 (0+n5.toNat:Nat) default))))) (0+n5.toNat:Nat) default)).length∧D.cell (List.getD (List.set r0 (0+n5.toNat
 : Nat) (D.ag (yc 0 [D.lit (.int .i64 n1)] (D.cells (List.getD r0 (0+n5.toNat:Nat) default))))) (0+n5.toNat:Nat) default) 1=D.sl a 2 b c∧Once (List.set
 r0 (0+n5.toNat:Nat) (D.ag (yc 0 [D.lit (.int .i64 n1)] (D.cells (List.getD r0 (0+n5.toNat:Nat) default)))))∧Dis (D.sl a 2 b c) []∧∀ d,N≤d →
 MC prog 42 (D.sl a 2 b c) (IntKind.i64.wrap (n1+1)) d (fun x n a=>d≤a→yo T b0 QM N0 m0 c0 n (IntKind.i64.wrap (n5+1)) t0 (List.set
 (List.set r0 (0+n5.toNat:Nat) (D.ag (yc 0 [D.lit (.int .i64 n1)] (D.cells (List.getD r0 (0+n5.toNat:Nat) default))))) (0+n5.toNat:Nat) (D.ag (yc
 1 [x] (D.cells (List.getD (List.set r0 (0+n5.toNat:Nat) (D.ag (yc 0 [D.lit (.int .i64 n1)] (D.cells (List.getD r0 (0+n5.toNat:Nat) default))))) (0+n5.toNat
 : Nat) default))))) q0 a)) (b0=b0∧∀ a,N≤a→QM n1 (D.ag r0) a)):yo T b0 QM N0 m0 c0 n1 n5 t0 r0 q0 N:=
  hE (H:=wU) (by kernel_rfl) h
theorem u9 (Q:QT [.int .i64]) (N0:Nat) (a0:Option Addr) (e0:List D) (c0:Nat) (n1 n5:Int) (N:Nat) (h :
Br (decide (n5<(e0.length:Int))) ((0≤n5∧n5<(e0.length:Int))∧∃ n:Int,(if 0=0 then D.cell (List.getD e0 n5.toNat default) 0 else D.sub (List.getD
 e0 n5.toNat default) 0 0)=D.lit (.int .i64 n)∧Br (bne n n1) (∀ a,N≤a→Q (-1) a) ((0≤n5∧n5<(e0.length:Int))∧∃ a b,∃ c:Nat,(if 0=0 then
 D.cell (List.getD e0 n5.toNat default) 1 else D.sub (List.getD e0 n5.toNat default) 1 0)=D.sl a 2 b c∧∀ d,N≤d→ACalls prog 44 [.int .i64] [.sv a 2 b
 c,.int .i64 (IntKind.i64.wrap (n1+1))] d (fun a b=>d≤b→Br (decide (a<0)) (∀ a,b≤a→Q (-1) a) (xg Q N0 a0 e0 c0
 a (IntKind.i64.wrap (n5+1)) b)))) (∀ a,N≤a→Q n1 a)):xg Q N0 a0 e0 c0 n1 n5 N:=
  hE (H:=rA) (by kernel_rfl) h
theorem x9 (Q:QT [.str]) (N0:Nat) (n0:Int) (s3:ByteArray) (N:Nat) (h :
Br (decide (n0>0)) ((10:Int)≠(0:Int)∧1≤([D.lit (.int IntKind.u8 (IntKind.u8.wrap (IntKind.i64.wrap (48+Int.tmod n0 10))))]).length∧∃ a:List Int,
 List.take 1 [D.lit (.int IntKind.u8 (IntKind.u8.wrap (IntKind.i64.wrap (48+Int.tmod n0 10))))]=List.map (fun n=>D.lit (.int IntKind.u8 n)) a∧(ByteArray.size
 (bytesOf a)+s3.size:Nat)≤9223372036854775807∧(10:Int)≠(0:Int)∧xB Q N0 (IntKind.i64.wrap (Int.tdiv n0 10)) (bytesOf a++s3) N) ((1
 + s3.size:Nat)≤9223372036854775807∧∀ a,N≤a→Q (bytes [109]++s3) a)):xB Q N0 n0 s3 N:=
  hE (H:=rh) (by kernel_rfl) h
theorem zAS (Q:QT [.int .i64]) (N0:Nat) (a0:Option Addr) (e0:List D) (c0:Nat) (n1 n5:Int) (N:Nat) (h :
Br (decide (n5<(e0.length:Int))) ((0≤n5∧n5<(e0.length:Int))∧False) (∀ a,N≤a→Q n1 a)):tD Q N0 a0 e0 c0 n1 n5 N:=
 hE (H:=wc) (by kernel_rfl) h
theorem vk (T:List Nat) (b0:Nat) (QM:Int→D→Nat→Prop) (N0:Nat) (m0 c0:Nat) (n1 n5:Int) (t0:Nat) (r0:List D) (q0:Nat) (N:Nat) (h :
let b:List D:=(List.set r0 (0+n5.toNat:Nat) (D.ag (yc 0 [D.lit (.int .i64 n1)] (D.cells (List.getD r0 (0+n5.toNat:Nat) default)))));Br (decide (n5
 < (m0:Int))) ((0≤n5∧n5<(m0:Int)∧(0+n5.toNat:Nat)<r0.length)∧(0+n5.toNat:Nat)<r0.length∧∀ d,N≤d→ACalls prog 41 [.str] [.int .i64
 (IntKind.i64.wrap (n1+1))] d (fun s=>let e:List D:=(List.set b (0+n5.toNat:Nat) (D.ag (yc 1 [D.lit (.string s)] (D.cells (List.getD b (0 +
 n5.toNat:Nat) default)))));fun f=>d≤f→(0≤n5∧n5<(m0:Int)∧(0+n5.toNat:Nat)<b.length)∧(0+n5.toNat:Nat)<b.length∧∀ b,
 f≤b→ACalls prog 41 [.str] [.int .i64 (IntKind.i64.wrap (IntKind.i64.wrap (n1+1)+1))] b (fun d=>let d:List D:=(List.set e (0+n5.toNat
 : Nat) (D.ag (yc 2 [D.lit (.string d)] (D.cells (List.getD e (0+n5.toNat:Nat) default)))));let f:List D:=(List.set d (0+n5.toNat:Nat) (D.ag
 (yc 3 [D.lit (.int .i64 (IntKind.i64.wrap (IntKind.i64.wrap (IntKind.i64.wrap (n1+1)+1)+1)))] (D.cells (List.getD d (0+n5.toNat:Nat) default)))));
 let g:List D:=(List.set f (0+n5.toNat:Nat) (D.ag (yc 4 [D.lit (.int .i64 (IntKind.i64.wrap (IntKind.i64.wrap (IntKind.i64.wrap (IntKind.i64.wrap (n1
 + 1)+1)+1)+1)))] (D.cells (List.getD f (0+n5.toNat:Nat) default)))));fun h=>b≤h→(0≤n5∧n5<(m0:Int)∧(0+n5.toNat:Nat)<e.length)
 ∧ (0+n5.toNat:Nat)<e.length∧(0≤n5∧n5<(m0:Int)∧(0+n5.toNat:Nat)<d.length)∧(0+n5.toNat:Nat)<d.length∧(0≤n5∧n5<(m0:Int)
 ∧ (0+n5.toNat:Nat)<f.length)∧(0+n5.toNat:Nat)<f.length∧(0≤n5∧n5<(m0:Int)∧(0+n5.toNat:Nat)<g.length)∧(0+n5.toNat:Nat)
 < g.length∧∃ a b,∃ c:Nat,D.cell (List.getD g (0+n5.toNat:Nat) default) 5=D.sl a 2 b c∧Tree (D.sl a 2 b c)∧In T (D.sl a 2 b c)∧(0+n5.toNat
 : Nat)<g.length∧5<(D.cells (List.getD g (0+n5.toNat:Nat) default)).length∧D.cell (List.getD g (0+n5.toNat:Nat) default) 5=D.sl a 2 b c ∧
 Once g∧Dis (D.sl a 2 b c) []∧∀ d,h≤d→MC prog 42 (D.sl a 2 b c) (IntKind.i64.wrap (IntKind.i64.wrap (IntKind.i64.wrap (IntKind.i64.wrap (IntKind.i64.wrap
 (n1+1)+1)+1)+1)+1)) d (fun x=>let a:List D:=(List.set g (0+n5.toNat:Nat) (D.ag (yc 5 [x] (D.cells (List.getD g (0+n5.toNat:Nat)
 default)))));fun n=>let b:List D:=(List.set a (0+n5.toNat:Nat) (D.ag (yc 6 [D.lit (.int .i64 n)] (D.cells (List.getD a (0+n5.toNat:Nat) default)))));
 fun c=>d≤c→(0≤n5∧n5<(m0:Int)∧(0+n5.toNat:Nat)<a.length)∧(0+n5.toNat:Nat)<a.length∧(0≤n5∧n5<(m0:Int)∧(0+n5.toNat
 : Nat)<b.length)∧(0+n5.toNat:Nat)<b.length∧∃ a d,∃ e:Nat,D.cell (List.getD b (0+n5.toNat:Nat) default) 7=D.sl a 2 d e ∧
 Tree (D.sl a 2 d e)∧In T (D.sl a 2 d e)∧(0+n5.toNat:Nat)<b.length∧7<(D.cells (List.getD b (0+n5.toNat:Nat) default)).length ∧
 D.cell (List.getD b (0+n5.toNat:Nat) default) 7=D.sl a 2 d e∧Once b∧Dis (D.sl a 2 d e) []∧∀ f,c≤f→MC prog 42 (D.sl a 2
 d e) (IntKind.i64.wrap (n+1)) f (fun a=>let a:List D:=(List.set b (0+n5.toNat:Nat) (D.ag (yc 7 [a] (D.cells (List.getD b (0+n5.toNat
 : Nat) default)))));fun b c=>f≤c→(0≤n5∧n5<(m0:Int)∧(0+n5.toNat:Nat)<a.length)∧(0+n5.toNat:Nat)<a.length∧∃ d e,
 ∃ f:Nat,D.cell (List.getD a (0+n5.toNat:Nat) default) 8=D.sl d 9 e f∧Tree (D.sl d 9 e f)∧In T (D.sl d 9 e f)∧(0+n5.toNat
 : Nat)<a.length∧8<(D.cells (List.getD a (0+n5.toNat:Nat) default)).length∧D.cell (List.getD a (0+n5.toNat:Nat) default) 8=D.sl d 9 e
 f∧Once a∧Dis (D.sl d 9 e f) []∧∀ g,c≤g→MC prog 15 (D.sl d 9 e f) b g (fun b c d=>g≤d→yL
 T b0 QM N0 m0 c0 c (IntKind.i64.wrap (n5+1)) t0 (List.set a (0+n5.toNat:Nat) (D.ag (yc 8 [b] (D.cells (List.getD a (0+n5.toNat:Nat) default)))))
 q0 d)))))) (b0=b0∧∀ a,N≤a→QM n1 (D.ag r0) a)):yL T b0 QM N0 m0 c0 n1 n5 t0 r0 q0 N:=
  hE (H:=wc) (by kernel_rfl) h
end Go.Proofs.YtnpjpplbkoammaaGreat
set_option maxRecDepth 100000
namespace Go.Proofs.YtnpjpplbkoammaaGreat
open Go Go.Proofs Go.Proofs.Tryz
def zHK:Hint:=⟨[],[],[]⟩
def pN:Hint:=⟨[hc 4 [0,1,5]],[],[(6,[en 0,en 1,en 2,en 3,en 4,en 5,en 6,en 7,ec 8 [20,24],en 9])]⟩
def zHq:Hint:=⟨[],[],[(9,hs 6 [ec 4 [26,28]]),(11,hs 6 [ec 4 [32,34]])]⟩
def pX:Hint:=⟨[hc 4 [0,1,5]],[],[(6,[en 0,en 1,en 2,en 3,en 4,en 5,en 6,en 7,ec 8 [20,24],en 9])]⟩
def wd (Q:QT [.bool]) (N0:Nat) (a0:Option Addr) (e0:List D) (c0:Nat) (a1:Option Addr) (e1:List D) (c1:Nat) (n5:Int) (N:Nat):Prop:=AT prog 69 [.bool] Q N0 .ord (zD prog 69 4) ⟨.sv a0 2 e0 c0::.sv a1 2 e1 c1::an 3 (.int .i64 n5::an 21 []),[],N,none⟩
def xS (Q:QT [.bool]) (N0:Nat) (a0:Option Addr) (e0:List D) (c0:Nat) (a1:Option Addr) (e1:List D) (c1:Nat) (n5:Int) (N:Nat):Prop:=AT prog 10 [.bool] Q N0 .ord (zD prog 10 4) ⟨.sv a0 9 e0 c0::.sv a1 9 e1 c1::an 3 (.int .i64 n5::an 21 []),[],N,none⟩
theorem zG3 (N:Nat) (x0 x1:D) (Q:QT [.bool]) (h :
Bel N x0→Bel N x1→∃ n:Int,(x0.cell 0)=D.lit (.int .i64 n)∧∃ d:Int,(x1.cell 0)=D.lit (.int .i64 d)∧Br (bne n d) (∀ a,N≤a→Q false
 a) (∃ a d,∃ c:Nat,(x0.cell 1)=D.sl a 2 d c∧∃ e f,∃ g:Nat,(x1.cell 1)=D.sl e 2 f g∧∀ h,N≤h→ACalls prog 69 [.bool] [.sv
 a 2 d c,.sv e 2 f g] h (fun b a=>h≤a→Br (!b) (∀ b,a≤b→Q false b) (∀ b,a≤b→Q true b)))):ACalls prog 40 [.bool] [PV.dg 2 x0,PV.dg 2 x1] N Q:=
  eE (H:=zHK) (by kernel_rfl) (by kernel_rfl) h
theorem zE5 (N:Nat) (a0:Option Addr) (e0:List D) (c0:Nat) (a1:Option Addr) (e1:List D) (c1:Nat) (Q:QT [.bool]) (h :
Bel N (D.sl a0 2 e0 c0)→Bel N (D.sl a1 2 e1 c1)→Br (bne (e0.length:Int) (e1.length:Int)) (∀ a,N≤a→Q false a) (wd Q N a0 e0 c0 a1
 e1 c1 0 N)):ACalls prog 69 [.bool] [PV.sv a0 2 e0 c0,PV.sv a1 2 e1 c1] N Q:=
  eE (H:=pN) (by kernel_rfl) (by kernel_rfl) h
theorem zGV (N:Nat) (x0 x1:D) (Q:QT [.bool]) (h :
Bel N x0→Bel N x1→∃ n:Int,(x0.cell 0)=D.lit (.int .i64 n)∧∃ d:Int,(x1.cell 0)=D.lit (.int .i64 d)∧Br (bne n d) (∀ a,N≤a→Q false
 a) (∃ s,(x0.cell 1)=D.lit (.string s)∧∃ d,(x1.cell 1)=D.lit (.string d)∧Br (!(ByteArray.toList s==ByteArray.toList d)) (∀ a,N≤a→Q false
 a) (∃ d,(x0.cell 2)=D.lit (.string d)∧∃ e,(x1.cell 2)=D.lit (.string e)∧Br (!(ByteArray.toList d==ByteArray.toList e)) (∀ a,N≤a
 → Q false a) (∃ d:Int,(x0.cell 3)=D.lit (.int .i64 d)∧∃ e:Int,(x1.cell 3)=D.lit (.int .i64 e)∧Br (bne d e) (∀ a,N≤a→Q false
 a) (∀ d,N≤d→ACalls prog 40 [.bool] [.dg 2 (D.sub x0 4 2),.dg 2 (D.sub x1 4 2)] d (fun b e=>d≤e→Br (!b) (∀ a,e≤a→Q false a)
 (∀ b,e≤b→ACalls prog 40 [.bool] [.dg 2 (D.sub x0 6 2),.dg 2 (D.sub x1 6 2)] b (fun d e=>b≤e→Br (!d) (∀ a,e≤a→Q false a)
 (∃ a b,∃ c:Nat,(x0.cell 8)=D.sl a 9 b c∧∃ d f,∃ g:Nat,(x1.cell 8)=D.sl d 9 f g∧∀ h,e≤h→ACalls prog 10 [.bool] [.sv a
 9 b c,.sv d 9 f g] h (fun a b=>h≤b→Br (!a) (∀ a,b≤a→Q false a) (∀ a,b≤a→Q true a))))))))))):ACalls prog 12 [.bool] [PV.dg 9 x0,PV.dg 9 x1] N Q:=
  eE (H:=zHq) (by kernel_rfl) (by kernel_rfl) h
theorem pW (N:Nat) (a0:Option Addr) (e0:List D) (c0:Nat) (a1:Option Addr) (e1:List D) (c1:Nat) (Q:QT [.bool]) (h :
Bel N (D.sl a0 9 e0 c0)→Bel N (D.sl a1 9 e1 c1)→Br (bne (e0.length:Int) (e1.length:Int)) (∀ a,N≤a→Q false a) (xS Q N a0 e0 c0 a1
 e1 c1 0 N)):ACalls prog 10 [.bool] [PV.sv a0 9 e0 c0,PV.sv a1 9 e1 c1] N Q:=
  eE (H:=pX) (by kernel_rfl) (by kernel_rfl) h
theorem rN (Q:QT [.bool]) (N0:Nat) (a0:Option Addr) (e0:List D) (c0:Nat) (a1:Option Addr) (e1:List D) (c1:Nat) (n5:Int) (N:Nat) (h :
Br (decide (n5<(e0.length:Int))) ((0≤n5∧n5<(e0.length:Int))∧(0≤n5∧n5<(e1.length:Int))∧∀ a,N≤a→ACalls prog 40 [.bool] [.dg 2 (List.getD
 e0 n5.toNat default),.dg 2 (List.getD e1 n5.toNat default)] a (fun b c=>a≤c→Br (!b) (∀ a,c≤a→Q false a) (wd Q N0 a0 e0
 c0 a1 e1 c1 (IntKind.i64.wrap (n5+1)) c))) (∀ a,N≤a→Q true a)):wd Q N0 a0 e0 c0 a1 e1 c1 n5 N:=
  hE (H:=pN) (by kernel_rfl) h
theorem wa (Q:QT [.bool]) (N0:Nat) (a0:Option Addr) (e0:List D) (c0:Nat) (a1:Option Addr) (e1:List D) (c1:Nat) (n5:Int) (N:Nat) (h :
Br (decide (n5<(e0.length:Int))) ((0≤n5∧n5<(e0.length:Int))∧(0≤n5∧n5<(e1.length:Int))∧∀ a,N≤a→ACalls prog 12 [.bool] [.dg 9 (List.getD
 e0 n5.toNat default),.dg 9 (List.getD e1 n5.toNat default)] a (fun b c=>a≤c→Br (!b) (∀ a,c≤a→Q false a) (xS Q N0 a0 e0
 c0 a1 e1 c1 (IntKind.i64.wrap (n5+1)) c))) (∀ a,N≤a→Q true a)):xS Q N0 a0 e0 c0 a1 e1 c1 n5 N:=
  hE (H:=pX) (by kernel_rfl) h
end Go.Proofs.YtnpjpplbkoammaaGreat
set_option maxRecDepth 100000
namespace Go.Proofs.YtnpjpplbkoammaaGreat
open Go Go.Proofs Go.Proofs.Tryz
end Go.Proofs.YtnpjpplbkoammaaGreat
set_option maxRecDepth 100000
namespace Go.Proofs.YtnpjpplbkoammaaGreat
open Go Go.Proofs Go.Proofs.Tryz
def zFE:Hint:=⟨[],[],[(4,hs 5 [ec 3 [13]])]⟩
def r5:Hint:=⟨[hc 5 [0,1,5]],[],[(7,hs 7 [ec 5 [21]])]⟩
def zFR:Hint:=⟨[],[],[(3,hs 5 [ec 2 [8]])]⟩
def qT:Hint:=⟨[hc 3 [0,3,4]],[],[(5,hs 9 [ec 6 [19]])]⟩
def zFc:Hint:=⟨[],[],[(3,hs 6 [ec 4 [11,13]])]⟩
def rm:Hint:=⟨[hc 4 [0,1,5]],[],[(6,[en 0,en 1,en 2,en 3,en 4,en 5,en 6,en 7,ec 8 [20,24],en 9])]⟩
def xu:Hint:=⟨[hc 2 [0,1,5]],[],[(8,hs 9 [em 7 (some 32) [0,1,5]])]⟩
def xD (Q:QT [.int .i64]) (N0:Nat) (a0:Option Addr) (e0:List D) (c0:Nat) (n1 n5:Int) (N:Nat):Prop:=AT prog 4 [.int .i64] Q N0 .ord (zD prog 4 5) ⟨.sv a0 4 e0 c0::.int .i64 n1::an 3 (.int .i64 n5::an 21 []),[],N,none⟩
def xt (Q:QT [.sl 4]) (N0:Nat) (a0:Option Addr) (e0:List D) (c0 m3 c3:Nat) (n4:Int) (r0:List D) (q0:Nat) (N:Nat):Prop:=AT prog 7 [.sl 4] Q N0 .ord (zD prog 7 3) ⟨.sv a0 4 e0 c0::an 2 (.sb 0 4 0 m3 c3::.int .i64 n4::an 18 []),[.arr 62 4 r0 q0],N,none⟩
def xw (Q:QT [.bool]) (N0:Nat) (a0:Option Addr) (e0:List D) (c0:Nat) (a1:Option Addr) (e1:List D) (c1:Nat) (n5:Int) (N:Nat):Prop:=AT prog 11 [.bool] Q N0 .ord (zD prog 11 4) ⟨.sv a0 4 e0 c0::.sv a1 4 e1 c1::an 3 (.int .i64 n5::an 21 []),[],N,none⟩
def uW (Q:QT [.int .i64]) (N0:Nat) (a0:Option Addr) (e0:List D) (c0:Nat) (n1 n5:Int) (N:Nat):Prop:=AT prog 13 [.int .i64] Q N0 .ord (zD prog 13 2) ⟨.sv a0 4 e0 c0::.int .i64 n1::an 3 (.int .i64 n5::an 40 []),[],N,none⟩
def ya (T:List Nat) (b0:Nat) (QM:Int→D→Nat→Prop) (N0:Nat) (m0 c0:Nat) (n1 n5:Int) (t0:Nat) (r0:List D) (q0:Nat) (N:Nat):Prop:=AT prog 13 [] noQ N0 (.mk T (some b0) (4,0) QM) (zD prog 13 2) ⟨.sb 0 4 0 m0 c0::.int .i64 n1::an 3 (.int .i64 n5::an 40 []),[.arr t0 4 r0 q0],N,some ([some b0],T)⟩
theorem zE1 (N:Nat) (x0:D) (n1:Int) (Q:QT [.int .i64]) (h :
Bel N x0→∃ s,(x0.cell 0)=D.lit (.string s)∧Br (decide (IntKind.i64.wrap (n1 - (s.size:Int))<0)) (∀ a,N≤a→Q (-1) a) (∀ a,N≤a→ACalls
 prog 18 [.int .i64] [.dg 2 (D.sub x0 1 2),.int .i64 (IntKind.i64.wrap (n1 - (s.size:Int)))] a (fun n b=>a≤b→Br (decide (n<0)) (∀ a,b≤a
 → Q (-1) a) (∀ a,b≤a→Q n a)))):ACalls prog 17 [.int .i64] [PV.dg 4 x0,PV.int .i64 n1] N Q:=
  eE (H:=zFE) (by kernel_rfl) (by kernel_rfl) h
theorem zEX (N:Nat) (a0:Option Addr) (e0:List D) (c0:Nat) (n1:Int) (Q:QT [.int .i64]) (h :
Bel N (D.sl a0 4 e0 c0)→Br (decide (IntKind.i64.wrap (n1 - (e0.length:Int))<0)) (∀ a,N≤a→Q (-1) a) (xD Q N a0 e0 c0 (IntKind.i64.wrap
 (n1 - (e0.length:Int))) 0 N)):ACalls prog 4 [.int .i64] [PV.sv a0 4 e0 c0,PV.int .i64 n1] N Q:=
  eE (H:=r5) (by kernel_rfl) (by kernel_rfl) h
theorem zFS (N:Nat) (x0:D) (Q:QT [.ag 4]) (h :
Bel N x0→∃ s,(x0.cell 0)=D.lit (.string s)∧∀ a,N≤a→ACalls prog 28 [.ag 2] [.dg 2 (D.sub x0 1 2)] a (fun x c=>a≤c→Bel c x→∃ b :
 Bool,(x0.cell 3)=D.lit (.bool b)∧∀ a,c≤a→Q (D.ag [D.lit (.string s),(x.cell 0),(x.cell 1),D.lit (.bool b)]) a)):ACalls prog 27 [.ag 4] [PV.dg 4 x0] N Q:=
  eE (H:=zFR) (by kernel_rfl) (by kernel_rfl) h
theorem zDb (N:Nat) (a0:Option Addr) (e0:List D) (c0:Nat) (Q:QT [.sl 4]) (h :
Bel N (D.sl a0 4 e0 c0)→(0≤(e0.length:Int)∧(e0.length:Int)≤(e0.length:Int)∧(56*(e0.length:Int))≤140737488355328∧(e0.length:Int)≤9223372036854775807)
 ∧ xt Q N a0 e0 c0 ((e0.length:Int)).toNat ((e0.length:Int)).toNat 0 (List.replicate ((e0.length:Int)).toNat (D.ag [D.lit (.string (bytes [])),
 D.lit (.int .i64 0),D.sl Option.none 2 [] 0,D.lit (.bool false)])) ((e0.length:Int)).toNat N):ACalls prog 7 [.sl 4] [PV.sv a0 4 e0 c0] N Q:=
  eE (H:=qT) (by kernel_rfl) (by kernel_rfl) h
theorem zFU (N:Nat) (x0 x1:D) (Q:QT [.bool]) (h :
Bel N x0→Bel N x1→∃ s,(x0.cell 0)=D.lit (.string s)∧∃ a,(x1.cell 0)=D.lit (.string a)∧Br (!(ByteArray.toList s==ByteArray.toList a)) (∀ a,
 N≤a→Q false a) (∀ a,N≤a→ACalls prog 40 [.bool] [.dg 2 (D.sub x0 1 2),.dg 2 (D.sub x1 1 2)] a (fun b c=>a≤c→Br (!b) (∀ a,c ≤
 a→Q false a) (∃ a:Bool,(x0.cell 3)=D.lit (.bool a)∧∃ b:Bool,(x1.cell 3)=D.lit (.bool b)∧Br (!(a==b)) (∀ a,c≤a→Q false
 a) (∀ a,c≤a→Q true a))))):ACalls prog 39 [.bool] [PV.dg 4 x0,PV.dg 4 x1] N Q:=
  eE (H:=zFc) (by kernel_rfl) (by kernel_rfl) h
theorem zEO (N:Nat) (a0:Option Addr) (e0:List D) (c0:Nat) (a1:Option Addr) (e1:List D) (c1:Nat) (Q:QT [.bool]) (h :
Bel N (D.sl a0 4 e0 c0)→Bel N (D.sl a1 4 e1 c1)→Br (bne (e0.length:Int) (e1.length:Int)) (∀ a,N≤a→Q false a) (xw Q N a0 e0 c0 a1
 e1 c1 0 N)):ACalls prog 11 [.bool] [PV.sv a0 4 e0 c0,PV.sv a1 4 e1 c1] N Q:=
  eE (H:=rm) (by kernel_rfl) (by kernel_rfl) h
theorem zBo (N:Nat) (a0:Option Addr) (e0:List D) (c0:Nat) (n1:Int) (Q:QT [.int .i64]) (h :
Bel N (D.sl a0 4 e0 c0)→uW Q N a0 e0 c0 n1 0 N):ACalls prog 13 [.int .i64] [PV.sv a0 4 e0 c0,PV.int .i64 n1] N Q:=
 eE (H:=xu) (by kernel_rfl) (by kernel_rfl) h
theorem zB1 (N:Nat) (ad:Addr) (e0:List D) (c0:Nat) (n1:Int) (R:D→Int→Nat→Prop) (QM:Int→D→Nat→Prop) (htree:Tree (.sl (some ad) 4 e0 c0)) (hne:e0≠[]) (hlen:e0.length≤maxLen) (h:∀ t:Nat,
ya (D.foot (D.sl (Option.some ad) 4 e0 c0)) (Addr.block ad) QM N e0.length c0 n1 0 t e0 e0.length N)
  (hQ:∀ k x N,QM k x N→∃ es,x=.ag es∧es.length=e0.length∧zB es=zB e0∧R (.sl (some ad) 4 es c0) k N):MC prog 13 (.sl (some ad) 4 e0 c0) n1 N R:=
 zRn (sh:=sh) (H:=xu) (fuel:=400) (by kernel_rfl) (by kernel_rfl) (fun t=>by kernel_rfl) htree hne hlen h hQ
theorem tm (Q:QT [.int .i64]) (N0:Nat) (a0:Option Addr) (e0:List D) (c0:Nat) (n1 n5:Int) (N:Nat) (h :
Br (decide (n5<(e0.length:Int))) ((0≤n5∧n5<(e0.length:Int))∧∀ a,N≤a→ACalls prog 17 [.int .i64] [.dg 4 (List.getD e0 n5.toNat default),.int
 .i64 n1] a (fun n b=>a≤b→Br (decide (n<0)) (∀ a,b≤a→Q (-1) a) (xD Q N0 a0 e0 c0 n (IntKind.i64.wrap (n5+1)) b)))
 (∀ a,N≤a→Q n1 a)):xD Q N0 a0 e0 c0 n1 n5 N:=
  hE (H:=r5) (by kernel_rfl) h
theorem tj (Q:QT [.sl 4]) (N0:Nat) (a0:Option Addr) (e0:List D) (c0 m3 c3:Nat) (n4:Int) (r0:List D) (q0:Nat) (N:Nat) (h :
Br (decide (n4<(e0.length:Int))) ((0≤n4∧n4<(e0.length:Int))∧∀ a,N≤a→ACalls prog 27 [.ag 4] [.dg 4 (List.getD e0 n4.toNat default)] a (fun
 x b=>a≤b→Bel b x→(0≤n4∧n4<(m3:Int)∧(0+n4.toNat:Nat)<r0.length)∧(0+n4.toNat:Nat)<r0.length∧xt Q N0 a0 e0
 c0 m3 c3 (IntKind.i64.wrap (n4+1)) (List.set r0 (0+n4.toNat:Nat) x) q0 b)) ((m3=r0.length∧c3=q0)∧(m3=r0.length∧c3=q0)∧(m3=r0.length∧c3
 = q0)∧∀ a b,N≤b→Fresh N0 b a [D.ag r0]→∀ c,b≤c→Q a r0 q0 c)):xt Q N0 a0 e0 c0 m3 c3 n4 r0 q0 N:=
  hE (H:=qT) (by kernel_rfl) h
theorem sG (Q:QT [.bool]) (N0:Nat) (a0:Option Addr) (e0:List D) (c0:Nat) (a1:Option Addr) (e1:List D) (c1:Nat) (n5:Int) (N:Nat) (h :
Br (decide (n5<(e0.length:Int))) ((0≤n5∧n5<(e0.length:Int))∧(0≤n5∧n5<(e1.length:Int))∧∀ a,N≤a→ACalls prog 39 [.bool] [.dg 4 (List.getD
 e0 n5.toNat default),.dg 4 (List.getD e1 n5.toNat default)] a (fun b c=>a≤c→Br (!b) (∀ a,c≤a→Q false a) (xw Q N0 a0 e0
 c0 a1 e1 c1 (IntKind.i64.wrap (n5+1)) c))) (∀ a,N≤a→Q true a)):xw Q N0 a0 e0 c0 a1 e1 c1 n5 N:=
  hE (H:=rm) (by kernel_rfl) h
theorem zAE (Q:QT [.int .i64]) (N0:Nat) (a0:Option Addr) (e0:List D) (c0:Nat) (n1 n5:Int) (N:Nat) (h :
Br (decide (n5<(e0.length:Int))) (∀ a,N≤a→ACalls prog 41 [.str] [.int .i64 n1] a (fun _ b=>a≤b→(0≤n5∧n5<(e0.length:Int))∧False))
 (∀ a,N≤a→Q n1 a)):uW Q N0 a0 e0 c0 n1 n5 N:=
  hE (H:=xu) (by kernel_rfl) h
theorem vR (T:List Nat) (b0:Nat) (QM:Int→D→Nat→Prop) (N0:Nat) (m0 c0:Nat) (n1 n5:Int) (t0:Nat) (r0:List D) (q0:Nat) (N:Nat) (h :
Br (decide (n5<(m0:Int))) (∀ b,N≤b→ACalls prog 41 [.str] [.int .i64 n1] b (fun s=>let d:List D:=(List.set r0 (0+n5.toNat:Nat) (D.ag (yc
 0 [D.lit (.string s)] (D.cells (List.getD r0 (0+n5.toNat:Nat) default)))));let e:List D:=(List.set d (0+n5.toNat:Nat) (D.ag (yc 1 [D.lit (.int
 .i64 (IntKind.i64.wrap (n1+1)))] (D.cells (List.getD d (0+n5.toNat:Nat) default)))));fun f=>b≤f→(0≤n5∧n5<(m0:Int)∧(0+n5.toNat :
 Nat)<r0.length)∧(0+n5.toNat:Nat)<r0.length∧(0≤n5∧n5<(m0:Int)∧(0+n5.toNat:Nat)<d.length)∧(0+n5.toNat:Nat)<d.length∧(0 ≤
 n5∧n5<(m0:Int)∧(0+n5.toNat:Nat)<e.length)∧(0+n5.toNat:Nat)<e.length∧∃ a b,∃ c:Nat,D.cell (List.getD e (0+n5.toNat:Nat) default)
 2=D.sl a 2 b c∧Tree (D.sl a 2 b c)∧In T (D.sl a 2 b c)∧(0+n5.toNat:Nat)<e.length∧2<(D.cells (List.getD e (0+n5.toNat:Nat) default)).length
 ∧ D.cell (List.getD e (0+n5.toNat:Nat) default) 2=D.sl a 2 b c∧Once e∧Dis (D.sl a 2 b c) []∧∀ d,f≤d→MC prog 42 (D.sl a 2 b c) (IntKind.i64.wrap
 (IntKind.i64.wrap (n1+1)+1)) d (fun x=>let a:List D:=(List.set e (0+n5.toNat:Nat) (D.ag (yc 2 [x] (D.cells (List.getD e (0+n5.toNat:Nat)
 default)))));fun n b=>d≤b→(3:Int)≠(0:Int)∧(0≤n5∧n5<(m0:Int)∧(0+n5.toNat:Nat)<a.length)∧(0+n5.toNat:Nat)<a.length
 ∧ ya T b0 QM N0 m0 c0 (IntKind.i64.wrap (n+1)) (IntKind.i64.wrap (n5+1)) t0 (List.set a (0+n5.toNat:Nat) (D.ag (yc 3 [D.lit (.bool
 (Int.tmod n 3==0))] (D.cells (List.getD a (0+n5.toNat:Nat) default))))) q0 b))) (b0=b0∧∀ a,N≤a→QM n1 (D.ag r0) a)):ya T b0 QM N0 m0 c0 n1 n5 t0 r0 q0 N:=
  hE (H:=xu) (by kernel_rfl) h
end Go.Proofs.YtnpjpplbkoammaaGreat
set_option maxRecDepth 100000
namespace Go.Proofs.YtnpjpplbkoammaaGreat
open Go Go.Proofs Go.Proofs.Tryz
def zBp:Hint:=⟨[],[],[]⟩
theorem zB3 (N:Nat) (x0:D) (Q:QT [.bool]) (h :
Bel N x0→∃ n:Int,(x0.cell 0)=D.lit (.int .i64 n)∧∀ a,N≤a→ACalls prog 58 [.bool] [.int .i64 n,.int .i64 1,.int .i64 5] a (fun b c=>a ≤
 c→Br b (∀ a,c≤a→Q true a) (∃ a:Int,(x0.cell 0)=D.lit (.int .i64 a)∧∀ b,c≤b→Q (a==8) b))):ACalls prog 57 [.bool] [PV.dg 9 x0] N Q:=
  eE (H:=zBp) (by kernel_rfl) (by kernel_rfl) h
end Go.Proofs.YtnpjpplbkoammaaGreat
