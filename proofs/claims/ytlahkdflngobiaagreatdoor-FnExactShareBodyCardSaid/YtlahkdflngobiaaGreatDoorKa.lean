/- Printed by gen.py: what the functions come to. -/
import Derived.Test.YtlahkdflngobiaaGreatDoorJh
set_option linter.unusedVariables false
set_option maxRecDepth 100000
namespace Go.Proofs.YtlahkdflngobiaaGreatDoor
open Go Go.Proofs Go.Proofs.Tryz
def zAg:Hint:=⟨[hc 5 [0,1,5]],[],[(7,hs 7 [ec 5 [21]])]⟩
def zJI:Hint:=⟨[],[],[(7,hs 5 [ec 3 [20]]),(10,hs 5 [ec 3 [26]])]⟩
def zAk:Hint:=⟨[hc 5 [0,1,5]],[],[(7,hs 7 [ec 5 [21]])]⟩
def wn (Q:QT [.int .i64]) (N0:Nat) (a0:Option Addr) (e0:List D) (I:Nat) (n1 J:Int) (N:Nat):Prop:=AT prog 75 [.int .i64] Q N0 .ord (zD prog 75 5) ⟨.sv a0 2 e0 I::.int .i64 n1::an 3 (.int .i64 J::an 21 []),[],N,none⟩
def xf (Q:QT [.int .i64]) (N0:Nat) (a0:Option Addr) (e0:List D) (I:Nat) (n1 J:Int) (N:Nat):Prop:=AT prog 33 [.int .i64] Q N0 .ord (zD prog 33 5) ⟨.sv a0 9 e0 I::.int .i64 n1::an 3 (.int .i64 J::an 21 []),[],N,none⟩
theorem zIV (N:Nat) (I:D) (n1:Int) (Q:QT [.int .i64]) (h :
Bel N I->∃ a b,∃ c:Nat,(I.cell 1)=D.sl a 2 b c/\kI 75 [.sv a 2 b c,.j n1] N (λn a=>Br (decide (n<0)) (uP a (Q (-1))) (uP a (Q n)))):ACalls prog 32 [.int .i64] [PV.dg 2 I,PV.int .i64 n1] N Q:=
 eE H0 h
theorem zHA (N:Nat) (a0:Option Addr) (e0:List D) (I:Nat) (n1:Int) (Q:QT [.int .i64]) (h :
Bel N (D.sl a0 2 e0 I)->Br (decide (IntKind.i64.wrap (n1 - (e0.length:Int))<0)) (uP N (Q (-1))) (wn Q N a0 e0 I (IntKind.i64.wrap (n1
 - (e0.length:Int))) 0 N)):ACalls prog 75 [.int .i64] [PV.sv a0 2 e0 I,PV.int .i64 n1] N Q:=
  eE zAg h
theorem zIY (N:Nat) (x0:D) (n1:Int) (Q:QT [.int .i64]) (h :
Bel N x0->∃ s,(x0.cell 1)=D.t s/\Br (decide (IntKind.i64.wrap (n1 - (s.size:Int))<0)) (uP N (Q (-1))) (∃ b,(x0.cell 2)=D.t b/\Br (decide
 (IntKind.i64.wrap (IntKind.i64.wrap (n1 - (s.size:Int)) - (b.size:Int))<0)) (uP N (Q (-1))) (kI 32 [.dg 2 (D.sub x0 4 2),.j (IntKind.i64.wrap
 (IntKind.i64.wrap (n1 - (s.size:Int)) - (b.size:Int)))] N (fun n b=>Br (decide (n<0)) (uP b (Q (-1))) (kI 32 [.dg 2 (D.sub x0 6 2),.j n] b (fun
 b d=>Br (decide (b<0)) (uP d (Q (-1))) (∃ a e,∃ c:Nat,(x0.cell 8)=D.sl a 9 e c/\kI 33 [.sv a 9 e c,.j b] d (fun a b=>Br (decide
 (a<0)) (uP b (Q (-1))) (uP b (Q a)))))))))):ACalls prog 7 [.int .i64] [PV.dg 9 x0,PV.int .i64 n1] N Q:=
  eE zJI h
theorem zGo (N:Nat) (a0:Option Addr) (e0:List D) (I:Nat) (n1:Int) (Q:QT [.int .i64]) (h :
Bel N (D.sl a0 9 e0 I)->Br (decide (IntKind.i64.wrap (n1 - (e0.length:Int))<0)) (uP N (Q (-1))) (xf Q N a0 e0 I (IntKind.i64.wrap (n1
 - (e0.length:Int))) 0 N)):ACalls prog 33 [.int .i64] [PV.sv a0 9 e0 I,PV.int .i64 n1] N Q:=
  eE zAk h
theorem qQ (Q:QT [.int .i64]) (N0:Nat) (a0:Option Addr) (e0:List D) (J:Nat) (n1 I:Int) (N:Nat) (h :
Br (decide (I<(e0.length:Int))) ((0<=I/\I<(e0.length:Int))/\kI 32 [.dg 2 (List.getD e0 I.toNat default),.j n1] N (λn a=>Br (decide (n
 < 0)) (uP a (Q (-1))) (wn Q N0 a0 e0 J n (IntKind.i64.wrap (I+1)) a))) (uP N (Q n1))):wn Q N0 a0 e0 J n1 I N:=
  hE zAg h
theorem r5 (Q:QT [.int .i64]) (N0:Nat) (a0:Option Addr) (e0:List D) (J:Nat) (n1 I:Int) (N:Nat) (h :
Br (decide (I<(e0.length:Int))) ((0<=I/\I<(e0.length:Int))/\kI 7 [.dg 9 (List.getD e0 I.toNat default),.j n1] N (λn a=>Br (decide (n
 < 0)) (uP a (Q (-1))) (xf Q N0 a0 e0 J n (IntKind.i64.wrap (I+1)) a))) (uP N (Q n1))):xf Q N0 a0 e0 J n1 I N:=
  hE zAk h
end Go.Proofs.YtlahkdflngobiaaGreatDoor
set_option maxRecDepth 100000
namespace Go.Proofs.YtlahkdflngobiaaGreatDoor
open Go Go.Proofs Go.Proofs.Tryz
def zAp:Hint:=⟨[hc 3 [0,3,4]],[],[(5,hs 9 [ec 6 [19]])]⟩
def zH4:Hint:=⟨[],[],[(6,hs 5 [ec 2 [17]]),(7,hs 5 [ec 2 [21]])]⟩
def zAa:Hint:=⟨[hc 3 [0,3,4]],[],[(5,hs 9 [ec 6 [19]])]⟩
def wx (Q:QT [.sl 2]) (N0:Nat) (a0:Option Addr) (e0:List D) (I J O:Nat) (n4:Int) (r0:List D) (q0:Nat) (N:Nat):Prop:=AT prog 84 [.sl 2] Q N0 .ord (zD prog 84 3) ⟨.sv a0 2 e0 I::an 2 (.sb 0 2 0 J O::.int .i64 n4::an 18 []),[.arr 33 2 r0 q0],N,none⟩
def wt (Q:QT [.sl 9]) (N0:Nat) (a0:Option Addr) (e0:List D) (I J O:Nat) (n4:Int) (r0:List D) (q0:Nat) (N:Nat):Prop:=AT prog 42 [.sl 9] Q N0 .ord (zD prog 42 3) ⟨.sv a0 9 e0 I::an 2 (.sb 0 9 0 J O::.int .i64 n4::an 18 []),[.arr 36 9 r0 q0],N,none⟩
theorem zH8 (N:Nat) (x0:D) (Q:QT [.ag 2]) (h :
Bel N x0->∃ n:Int,(x0.cell 0)=D.j n/\∃ a b,∃ c:Nat,(x0.cell 1)=D.sl a 2 b c/\kL 2 84 [.sv a 2 b c] N (fun a b c d=>uP d (Q
 (D.ag [D.j n,D.sl a 2 b c])))):ACalls prog 41 [.ag 2] [PV.dg 2 x0] N Q:=
  eE H0 h
theorem zGn (N:Nat) (a0:Option Addr) (e0:List D) (I:Nat) (Q:QT [.sl 2]) (h :
Bel N (D.sl a0 2 e0 I)->(0<=(e0.length:Int)/\(e0.length:Int)<=(e0.length:Int)/\(32*(e0.length:Int))<=140737488355328/\(e0.length:Int) <=
 9223372036854775807)/\wx Q N a0 e0 I ((e0.length:Int)).toNat ((e0.length:Int)).toNat 0 (List.replicate ((e0.length:Int)).toNat (D.ag [D.j
 0,D.sl none 2 [] 0])) ((e0.length:Int)).toNat N):ACalls prog 84 [.sl 2] [PV.sv a0 2 e0 I] N Q:=
  eE zAp h
theorem zJY (N:Nat) (I:D) (Q:QT [.ag 9]) (h :
Bel N I->∃ n:Int,(I.cell 0)=D.j n/\∃ s,(I.cell 1)=D.t s/\∃ b,(I.cell 2)=D.t b/\∃ d:Int,(I.cell 3)=D.j d/\kA 2 41 [.dg 2
 (D.sub I 4 2)] N (λx e=>kA 2 41 [.dg 2 (D.sub I 6 2)] e (λe f=>∃ a g,∃ c:Nat,(I.cell 8)=D.sl a 9 g c/\kL 9 42 [.sv a 9 g c] f (fun
 a c f g=>uP g (Q (D.ag [D.j n,D.t s,D.t b,D.j d,(x.cell 0),(x.cell 1),(e.cell 0),(e.cell 1),D.sl a 9 c f])))))):ACalls prog 10 [.ag 9] [PV.dg 9 I] N Q:=
  eE zH4 h
theorem zG2 (N:Nat) (a0:Option Addr) (e0:List D) (I:Nat) (Q:QT [.sl 9]) (h :
Bel N (D.sl a0 9 e0 I)->(0<=(e0.length:Int)/\(e0.length:Int)<=(e0.length:Int)/\(136*(e0.length:Int))<=140737488355328/\(e0.length:Int)
 <= 9223372036854775807)/\wt Q N a0 e0 I ((e0.length:Int)).toNat ((e0.length:Int)).toNat 0 (List.replicate ((e0.length:Int)).toNat (D.ag
 [D.j 0,D.t b0,D.t b0,D.j 0,D.j 0,D.sl none 2 [] 0,D.j 0,D.sl none 2 [] 0,D.sl none 9 [] 0])) ((e0.length:Int)).toNat N):ACalls prog 42 [.sl 9] [PV.sv a0 9 e0 I] N Q:=
  eE zAa h
theorem qB (Q:QT [.sl 2]) (N0:Nat) (a0:Option Addr) (e0:List D) (c0 J c3:Nat) (I:Int) (r0:List D) (O:Nat) (N:Nat) (h :
Br (decide (I<(e0.length:Int))) ((0<=I/\I<(e0.length:Int))/\kA 2 41 [.dg 2 (List.getD e0 I.toNat default)] N (λx a=>(0<=I/\I<(J
 : Int)/\(0+I.toNat:Nat)<r0.length)/\(0+I.toNat:Nat)<r0.length/\wx Q N0 a0 e0 c0 J c3 (IntKind.i64.wrap (I+1)) (List.set r0 (0
 + I.toNat:Nat) x) O a)) (w3 (J=r0.length/\c3=O) (∀ a b,N<=b->Fresh N0 b a [D.ag r0]->uP b (Q a r0 O)))):wx Q N0 a0 e0 c0 J c3 I r0 O N:=
  hE zAp h
theorem qP (Q:QT [.sl 9]) (N0:Nat) (a0:Option Addr) (e0:List D) (c0 J c3:Nat) (I:Int) (r0:List D) (O:Nat) (N:Nat) (h :
Br (decide (I<(e0.length:Int))) ((0<=I/\I<(e0.length:Int))/\kA 9 10 [.dg 9 (List.getD e0 I.toNat default)] N (λx a=>(0<=I/\I<(J
 : Int)/\(0+I.toNat:Nat)<r0.length)/\(0+I.toNat:Nat)<r0.length/\wt Q N0 a0 e0 c0 J c3 (IntKind.i64.wrap (I+1)) (List.set r0 (0
 + I.toNat:Nat) x) O a)) (w3 (J=r0.length/\c3=O) (∀ a b,N<=b->Fresh N0 b a [D.ag r0]->uP b (Q a r0 O)))):wt Q N0 a0 e0 c0 J c3 I r0 O N:=
  hE zAa h
end Go.Proofs.YtlahkdflngobiaaGreatDoor
set_option maxRecDepth 100000
namespace Go.Proofs.YtlahkdflngobiaaGreatDoor
open Go Go.Proofs Go.Proofs.Tryz
def wo:Hint:=⟨[hc 2 [0,1,5]],[],[(6,hs 8 [em 6 (some 22) [0,1,5]])]⟩
def zFj:Hint:=⟨[],[],[(1,hs 5 [em 3 (some 5) [1]])]⟩
def rz:Hint:=⟨[hc 2 [0,1,5]],[],[]⟩
def pm:Hint:=⟨[hc 4 [0,3]],[],[]⟩
def ws:Hint:=⟨[hc 2 [0,1,5]],[],[(14,hs 9 [em 7 (some 54) [0,1,5]]),(17,hs 9 [em 7 (some 70) [0,1,5]]),(18,hs 8 [em 6 (some 77) [0,1,5]])]⟩
def zEj:Hint:=⟨[],[],[(1,hs 5 [em 3 (some 5) [1,2]]),(2,hs 5 [em 3 (some 9) [1,2]]),(3,hs 5 [em 3 (some 13) [1]])]⟩
def tu (Q:QT [.int .i64]) (N0:Nat) (a0:Option Addr) (e0:List D) (I:Nat) (n1 J:Int) (N:Nat):Prop:=AT prog 52 [.int .i64] Q N0 .ord (zD prog 52 2) ⟨.sv a0 2 e0 I::.int .i64 n1::an 3 (.int .i64 J::an 21 []),[],N,none⟩
def yp (T:List Nat) (b0:Nat) (I:Int->D->Nat->Prop) (N0:Nat) (J O:Nat) (n1 n5:Int) (t0:Nat) (r0:List D) (q0:Nat) (N:Nat):Prop:=AT prog 52 [] noQ N0 (.mk T (some b0) (2,0) I) (zD prog 52 2) ⟨.sb 0 2 0 J O::.int .i64 n1::an 3 (.int .i64 n5::an 21 []),[.arr t0 2 r0 q0],N,some ([some b0],T)⟩
def xv (Q:QT [.int .i64]) (N0:Nat) (a0:Option Addr) (e0:List D) (I:Nat) (n1 J:Int) (N:Nat):Prop:=AT prog 93 [.int .i64] Q N0 .ord (zD prog 93 2) ⟨.sv a0 2 e0 I::.int .i64 n1::an 3 (.int .i64 J::an 25 []),[],N,none⟩
def xO (Q:QT [.str]) (N0:Nat) (n0:Int) (I:ByteArray) (N:Nat):Prop:=AT prog 51 [.str] Q N0 .ord (zD prog 51 4) ⟨.int .i64 n0::an 2 (.str I::an 16 []),[],N,none⟩
def tq (Q:QT [.int .i64]) (N0:Nat) (a0:Option Addr) (e0:List D) (I:Nat) (n1 J:Int) (N:Nat):Prop:=AT prog 54 [.int .i64] Q N0 .ord (zD prog 54 2) ⟨.sv a0 9 e0 I::.int .i64 n1::an 3 (.int .i64 J::an 76 []),[],N,none⟩
def yS (T:List Nat) (b0:Nat) (I:Int->D->Nat->Prop) (N0:Nat) (J O:Nat) (n1 n5:Int) (t0:Nat) (r0:List D) (q0:Nat) (N:Nat):Prop:=AT prog 54 [] noQ N0 (.mk T (some b0) (9,0) I) (zD prog 54 2) ⟨.sb 0 9 0 J O::.int .i64 n1::an 3 (.int .i64 n5::an 76 []),[.arr t0 9 r0 q0],N,some ([some b0],T)⟩
theorem zEF (N:Nat) (a0:Option Addr) (e0:List D) (I:Nat) (n1:Int) (Q:QT [.int .i64]) (h :
Bel N (D.sl a0 2 e0 I)->tu Q N a0 e0 I n1 0 N):ACalls prog 52 [.int .i64] [PV.sv a0 2 e0 I,PV.int .i64 n1] N Q:=
 eE wo h
theorem zDj (N:Nat) (ad:Addr) (e0:List D) (J:Nat) (n1:Int) (R:D->Int->Nat->Prop) (QM:Int->D->Nat->Prop) (I:Tree (.sl (some ad) 2 e0 J)) (O:e0≠[]) (hlen:e0.length<=maxLen) (h:∀ t:Nat,
yp (D.foot (D.sl (Option.some ad) 2 e0 J)) (Addr.block ad) QM N e0.length J n1 0 t e0 e0.length N)
  (hQ:∀ k x N,QM k x N->∃ es,x=.ag es/\es.length=e0.length/\zB es=zB e0/\R (.sl (some ad) 2 es J) k N):MC prog 52 (.sl (some ad) 2 e0 J) n1 N R:=
 zUO (sh:=sh) (H:=wo) (fuel:=400) (by kernel_rfl) (by kernel_rfl) (λt=>by kernel_rfl) I O hlen h hQ
theorem zGD (N:Nat) (cs:List D) (n1:Int) (R:D->Int->Nat->Prop) (O:Int->D->Nat->Prop) (J:IsAg 2 (.ag cs)) (h :
∃ a b,∃ c:Nat,D.cell (D.ag cs) 1=D.sl a 2 b c/\Tree (D.sl a 2 b c)/\In (D.foot (D.ag cs)) (D.sl a 2 b c)/\1<(D.cells (D.ag cs)).length /\
 D.cell (D.ag cs) 1=D.sl a 2 b c/\Once (D.cells (D.ag cs))/\Dis (D.sl a 2 b c) []/\∀ d,N<=d->MC prog 52 (D.sl a 2 b c) n1 d (λx n a=>d<=a
 -> ∀ b,a<=b->O n (D.ag (yk 1 [x] (D.cells (D.ag cs)))) b))
   (hQ:∀ k x N,O k x N->∃ I,x=.ag I/\I.map D.cv=cs.map D.cv/\zB I=zB cs/\R (.ag I) k N):MC prog 53 (.ag cs) n1 N R:=
  zU7 (sh:=sh) (H:=zFj) (fuel:=400) (xr:=(2,33)) (by kernel_rfl) (by kernel_rfl) (by kernel_rfl) J h hQ
theorem zD2 (N:Nat) (a0:Option Addr) (e0:List D) (I:Nat) (n1:Int) (Q:QT [.int .i64]) (h :
Bel N (D.sl a0 2 e0 I)->xv Q N a0 e0 I n1 0 N):ACalls prog 93 [.int .i64] [PV.sv a0 2 e0 I,PV.int .i64 n1] N Q:=
 eE rz h
theorem zFF (N:Nat) (I:D) (n1:Int) (Q:QT [.int .i64]) (h :
Bel N I->∃ a b,∃ c:Nat,(I.cell 1)=D.sl a 2 b c/\kI 93 [.sv a 2 b c,.j n1] N (λn a=>Br (decide (n<0)) (uP a (Q (-1))) (uP a (Q n)))):ACalls prog 55 [.int .i64] [PV.dg 2 I,PV.int .i64 n1] N Q:=
 eE H0 h
theorem qu (N:Nat) (n0:Int) (Q:QT [.str]) (h :
Br (decide (n0<=0)) (uP N (Q (bytes [109,48]))) (xO Q N n0 b0 N)):ACalls prog 51 [.str] [PV.int .i64 n0] N Q:=
 eE pm h
theorem zD1 (N:Nat) (a0:Option Addr) (e0:List D) (I:Nat) (n1:Int) (Q:QT [.int .i64]) (h :
Bel N (D.sl a0 9 e0 I)->tq Q N a0 e0 I n1 0 N):ACalls prog 54 [.int .i64] [PV.sv a0 9 e0 I,PV.int .i64 n1] N Q:=
 eE ws h
theorem zEG (N:Nat) (ad:Addr) (e0:List D) (J:Nat) (n1:Int) (R:D->Int->Nat->Prop) (QM:Int->D->Nat->Prop) (I:Tree (.sl (some ad) 9 e0 J)) (O:e0≠[]) (hlen:e0.length<=maxLen) (h:∀ t:Nat,
yS (D.foot (D.sl (Option.some ad) 9 e0 J)) (Addr.block ad) QM N e0.length J n1 0 t e0 e0.length N)
  (hQ:∀ k x N,QM k x N->∃ es,x=.ag es/\es.length=e0.length/\zB es=zB e0/\R (.sl (some ad) 9 es J) k N):MC prog 54 (.sl (some ad) 9 e0 J) n1 N R:=
 zUO (sh:=sh) (H:=ws) (fuel:=400) (by kernel_rfl) (by kernel_rfl) (λt=>by kernel_rfl) I O hlen h hQ
theorem zF5 (N:Nat) (cs:List D) (n1:Int) (R:D->Int->Nat->Prop) (QM:Int->D->Nat->Prop) (hag:IsAg 9 (.ag cs)) (h :
Tree (D.sub (D.ag cs) 4 2)/\In (D.foot (D.ag cs)) (D.sub (D.ag cs) 4 2)/\6<=(D.cells (D.ag cs)).length/\D.sub (D.ag cs) 4 2=D.sub (D.ag cs) 4 2 /\
 Once (D.cells (D.ag cs))/\Dis (D.sub (D.ag cs) 4 2) []/\∀ b,N<=b->MC prog 53 (D.sub (D.ag cs) 4 2) n1 b (fun x n d=>b<=d->Tree (D.sub (D.ag (yk
 4 (D.cells x) (D.cells (D.ag cs)))) 6 2)/\In (D.foot (D.ag cs)) (D.sub (D.ag (yk 4 (D.cells x) (D.cells (D.ag cs)))) 6 2)/\8<=(D.cells (D.ag (yk 4
 (D.cells x) (D.cells (D.ag cs))))).length/\D.sub (D.ag (yk 4 (D.cells x) (D.cells (D.ag cs)))) 6 2=D.sub (D.ag (yk 4 (D.cells x) (D.cells (D.ag cs)))) 6
 2/\Once (D.cells (D.ag (yk 4 (D.cells x) (D.cells (D.ag cs)))))/\Dis (D.sub (D.ag (yk 4 (D.cells x) (D.cells (D.ag cs)))) 6 2) []/\∀ b,d<=b->MC
 prog 53 (D.sub (D.ag (yk 4 (D.cells x) (D.cells (D.ag cs)))) 6 2) n b (fun d e f=>b<=f->∃ a b,∃ c:Nat,D.cell (D.ag (yk 6 (D.cells d)
 (D.cells (D.ag (yk 4 (D.cells x) (D.cells (D.ag cs))))))) 8=D.sl a 9 b c/\Tree (D.sl a 9 b c)/\In (D.foot (D.ag cs)) (D.sl a 9 b c)/\8<(D.cells
 (D.ag (yk 6 (D.cells d) (D.cells (D.ag (yk 4 (D.cells x) (D.cells (D.ag cs)))))))).length/\D.cell (D.ag (yk 6 (D.cells d) (D.cells (D.ag (yk 4
 (D.cells x) (D.cells (D.ag cs))))))) 8=D.sl a 9 b c/\Once (D.cells (D.ag (yk 6 (D.cells d) (D.cells (D.ag (yk 4 (D.cells x) (D.cells (D.ag cs))))))))
 /\ Dis (D.sl a 9 b c) []/\∀ g,f<=g->MC prog 54 (D.sl a 9 b c) e g (fun a b c=>g<=c->∀ e,c<=e->QM b (D.ag (yk 8 [a] (D.cells
 (D.ag (yk 6 (D.cells d) (D.cells (D.ag (yk 4 (D.cells x) (D.cells (D.ag cs)))))))))) e))))
   (hQ:∀ k x N,QM k x N->∃ cs2,x=.ag cs2/\cs2.map D.cv=cs.map D.cv/\zB cs2=zB cs/\R (.ag cs2) k N):MC prog 15 (.ag cs) n1 N R:=
  zU7 (sh:=sh) (H:=zEj) (fuel:=400) (xr:=(2,36)) (by kernel_rfl) (by kernel_rfl) (by kernel_rfl) hag h hQ
theorem zBZ (Q:QT [.int .i64]) (N0:Nat) (a0:Option Addr) (e0:List D) (J:Nat) (n1 I:Int) (N:Nat) (h :
Br (decide (I<(e0.length:Int))) ((0<=I/\I<(e0.length:Int))/\False) (uP N (Q n1))):tu Q N0 a0 e0 J n1 I N:=
 hE wo h
theorem uT (T:List Nat) (b0:Nat) (QM:Int->D->Nat->Prop) (N0:Nat) (m0 c0:Nat) (n1 n5:Int) (t0:Nat) (r0:List D) (q0:Nat) (N:Nat) (h :
Br (decide (n5<(m0:Int))) ((0<=n5/\n5<(m0:Int)/\(0+n5.toNat:Nat)<r0.length)/\(0+n5.toNat:Nat)<r0.length/\(0<=n5/\n5<(m0:Int)
 /\ (0+n5.toNat:Nat)<(List.set r0 (0+n5.toNat:Nat) (D.ag (yk 0 [D.j n1] (D.cells (List.getD r0 (0+n5.toNat:Nat) default))))).length)/\(0 +
 n5.toNat:Nat)<(List.set r0 (0+n5.toNat:Nat) (D.ag (yk 0 [D.j n1] (D.cells (List.getD r0 (0+n5.toNat:Nat) default))))).length/\∃ a b,∃ c:Nat,
 D.cell (List.getD (List.set r0 (0+n5.toNat:Nat) (D.ag (yk 0 [D.j n1] (D.cells (List.getD r0 (0+n5.toNat:Nat) default))))) (0+n5.toNat:Nat)
 default) 1=D.sl a 2 b c/\Tree (D.sl a 2 b c)/\In T (D.sl a 2 b c)/\(0+n5.toNat:Nat)<(List.set r0 (0+n5.toNat:Nat) (D.ag (yk 0 [D.j n1]
 (D.cells (List.getD r0 (0+n5.toNat:Nat) default))))).length/\1<(D.cells (List.getD (List.set r0 (0+n5.toNat:Nat) (D.ag (yk 0 [D.j n1] (D.cells
 (List.getD r0 (0+n5.toNat:Nat) default))))) (0+n5.toNat:Nat) default)).length/\D.cell (List.getD (List.set r0 (0+n5.toNat:Nat) (D.ag (yk 0 [D.j
 n1] (D.cells (List.getD r0 (0+n5.toNat:Nat) default))))) (0+n5.toNat:Nat) default) 1=D.sl a 2 b c/\Once (List.set r0 (0+n5.toNat:Nat) (D.ag
 (yk 0 [D.j n1] (D.cells (List.getD r0 (0+n5.toNat:Nat) default)))))/\Dis (D.sl a 2 b c) []/\∀ d,N<=d->MC prog 52 (D.sl a 2 b c) (IntKind.i64.wrap
 (n1+1)) d (fun x n a=>d<=a->yp T b0 QM N0 m0 c0 n (IntKind.i64.wrap (n5+1)) t0 (List.set (List.set r0 (0+n5.toNat:Nat) (D.ag
 (yk 0 [D.j n1] (D.cells (List.getD r0 (0+n5.toNat:Nat) default))))) (0+n5.toNat:Nat) (D.ag (yk 1 [x] (D.cells (List.getD (List.set r0 (0+n5.toNat
 : Nat) (D.ag (yk 0 [D.j n1] (D.cells (List.getD r0 (0+n5.toNat:Nat) default))))) (0+n5.toNat:Nat) default))))) q0 a)) (b0=b0/\∀ a,N<=a->QM n1
 (D.ag r0) a)):yp T b0 QM N0 m0 c0 n1 n5 t0 r0 q0 N:=
  hE wo h
theorem t6 (Q:QT [.int .i64]) (N0:Nat) (a0:Option Addr) (e0:List D) (J:Nat) (n1 I:Int) (N:Nat) (h :
Br (decide (I<(e0.length:Int))) ((0<=I/\I<(e0.length:Int))/\∃ n:Int,(if 0=0 then D.cell (List.getD e0 I.toNat default) 0 else D.sub
 (List.getD e0 I.toNat default) 0 0)=D.j n/\Br (bne n n1) (uP N (Q (-1))) ((0<=I/\I<(e0.length:Int))/\∃ a b,∃ c:Nat,(if 0=0 then D.cell
 (List.getD e0 I.toNat default) 1 else D.sub (List.getD e0 I.toNat default) 1 0)=D.sl a 2 b c/\kI 93 [.sv a 2 b c,.j (IntKind.i64.wrap (n1+1))] N (fun
 a b=>Br (decide (a<0)) (uP b (Q (-1))) (xv Q N0 a0 e0 J a (IntKind.i64.wrap (I+1)) b)))) (uP N (Q n1))):xv Q N0 a0 e0 J n1 I N:=
  hE rz h
theorem wU (Q:QT [.str]) (N0:Nat) (n0:Int) (s3:ByteArray) (N:Nat) (h :
Br (decide (n0>0)) ((10:Int)≠(0:Int)/\1<=([D.lit (.int IntKind.u8 (IntKind.u8.wrap (IntKind.i64.wrap (48+Int.tmod n0 10))))]).length/\∃ a :
 List Int,List.take 1 [D.lit (.int IntKind.u8 (IntKind.u8.wrap (IntKind.i64.wrap (48+Int.tmod n0 10))))]=List.map (fun n=>D.lit (.int IntKind.u8 n)) a /\
 (ByteArray.size (bytesOf a)+s3.size:Nat)<=9223372036854775807/\(10:Int)≠(0:Int)/\xO Q N0 (IntKind.i64.wrap (Int.tdiv n0 10))
 (bytesOf a++s3) N) ((1+s3.size:Nat)<=9223372036854775807/\uP N (Q (bytes [109]++s3)))):xO Q N0 n0 s3 N:=
  hE pm h
theorem zBg (Q:QT [.int .i64]) (N0:Nat) (a0:Option Addr) (e0:List D) (J:Nat) (n1 I:Int) (N:Nat) (h :
Br (decide (I<(e0.length:Int))) ((0<=I/\I<(e0.length:Int))/\False) (uP N (Q n1))):tq Q N0 a0 e0 J n1 I N:=
 hE ws h
theorem uS (T:List Nat) (b0:Nat) (QM:Int->D->Nat->Prop) (N0:Nat) (m0 c0:Nat) (n1 n5:Int) (t0:Nat) (r0:List D) (q0:Nat) (N:Nat) (h :
let b:List D:=(List.set r0 (0+n5.toNat:Nat) (D.ag (yk 0 [D.j n1] (D.cells (List.getD r0 (0+n5.toNat:Nat) default)))));Br (decide (n5<(m0
 : Int))) ((0<=n5/\n5<(m0:Int)/\(0+n5.toNat:Nat)<r0.length)/\(0+n5.toNat:Nat)<r0.length/\∀ d,N<=d->ACalls prog 51 [.str] [.j
 (IntKind.i64.wrap (n1+1))] d (fun s=>let e:List D:=(List.set b (0+n5.toNat:Nat) (D.ag (yk 1 [D.t s] (D.cells (List.getD b (0+n5.toNat :
 Nat) default)))));fun f=>d<=f->(0<=n5/\n5<(m0:Int)/\(0+n5.toNat:Nat)<b.length)/\(0+n5.toNat:Nat)<b.length/\∀ b,f<=b ->
 ACalls prog 51 [.str] [.j (IntKind.i64.wrap (IntKind.i64.wrap (n1+1)+1))] b (fun d=>let d:List D:=(List.set e (0+n5.toNat:Nat) (D.ag (yk
 2 [D.t d] (D.cells (List.getD e (0+n5.toNat:Nat) default)))));let f:List D:=(List.set d (0+n5.toNat:Nat) (D.ag (yk 3 [D.j
 (IntKind.i64.wrap (IntKind.i64.wrap (IntKind.i64.wrap (n1+1)+1)+1))] (D.cells (List.getD d (0+n5.toNat:Nat) default)))));let g:List D:=
 (List.set f (0+n5.toNat:Nat) (D.ag (yk 4 [D.j (IntKind.i64.wrap (IntKind.i64.wrap (IntKind.i64.wrap (IntKind.i64.wrap (n1+1)+1)+1)+1))] (D.cells
 (List.getD f (0+n5.toNat:Nat) default)))));fun h=>b<=h->(0<=n5/\n5<(m0:Int)/\(0+n5.toNat:Nat)<e.length)/\(0+n5.toNat:Nat) <
 e.length/\(0<=n5/\n5<(m0:Int)/\(0+n5.toNat:Nat)<d.length)/\(0+n5.toNat:Nat)<d.length/\(0<=n5/\n5<(m0:Int)/\(0+n5.toNat :
 Nat)<f.length)/\(0+n5.toNat:Nat)<f.length/\(0<=n5/\n5<(m0:Int)/\(0+n5.toNat:Nat)<g.length)/\(0+n5.toNat:Nat)<g.length/\∃
 a b,∃ c:Nat,D.cell (List.getD g (0+n5.toNat:Nat) default) 5=D.sl a 2 b c/\Tree (D.sl a 2 b c)/\In T (D.sl a 2 b c)/\(0+n5.toNat:Nat) <
 g.length/\5<(D.cells (List.getD g (0+n5.toNat:Nat) default)).length/\D.cell (List.getD g (0+n5.toNat:Nat) default) 5=D.sl a 2 b c/\Once
 g/\Dis (D.sl a 2 b c) []/\∀ d,h<=d->MC prog 52 (D.sl a 2 b c) (IntKind.i64.wrap (IntKind.i64.wrap (IntKind.i64.wrap (IntKind.i64.wrap
 (IntKind.i64.wrap (n1+1)+1)+1)+1)+1)) d (fun x=>let a:List D:=(List.set g (0+n5.toNat:Nat) (D.ag (yk 5 [x] (D.cells (List.getD g (0
 + n5.toNat:Nat) default)))));fun n=>let b:List D:=(List.set a (0+n5.toNat:Nat) (D.ag (yk 6 [D.j n] (D.cells (List.getD a (0+n5.toNat :
 Nat) default)))));fun c=>d<=c->(0<=n5/\n5<(m0:Int)/\(0+n5.toNat:Nat)<a.length)/\(0+n5.toNat:Nat)<a.length/\(0<=n5/\n5<(m0 :
 Int)/\(0+n5.toNat:Nat)<b.length)/\(0+n5.toNat:Nat)<b.length/\∃ a d,∃ e:Nat,D.cell (List.getD b (0+n5.toNat:Nat) default) 7 =
 D.sl a 2 d e/\Tree (D.sl a 2 d e)/\In T (D.sl a 2 d e)/\(0+n5.toNat:Nat)<b.length/\7<(D.cells (List.getD b (0+n5.toNat :
 Nat) default)).length/\D.cell (List.getD b (0+n5.toNat:Nat) default) 7=D.sl a 2 d e/\Once b/\Dis (D.sl a 2 d e) []/\∀ f,c<=f ->
 MC prog 52 (D.sl a 2 d e) (IntKind.i64.wrap (n+1)) f (fun a=>let a:List D:=(List.set b (0+n5.toNat:Nat) (D.ag (yk 7 [a] (D.cells
 (List.getD b (0+n5.toNat:Nat) default)))));fun b c=>f<=c->(0<=n5/\n5<(m0:Int)/\(0+n5.toNat:Nat)<a.length)/\(0+n5.toNat:Nat)
 < a.length/\∃ d e,∃ f:Nat,D.cell (List.getD a (0+n5.toNat:Nat) default) 8=D.sl d 9 e f/\Tree (D.sl d 9 e f)/\In T (D.sl
 d 9 e f)/\(0+n5.toNat:Nat)<a.length/\8<(D.cells (List.getD a (0+n5.toNat:Nat) default)).length/\D.cell (List.getD a (0+n5.toNat :
 Nat) default) 8=D.sl d 9 e f/\Once a/\Dis (D.sl d 9 e f) []/\∀ g,c<=g->MC prog 54 (D.sl d 9 e f) b g (fun b c d=>g
 <= d->yS T b0 QM N0 m0 c0 c (IntKind.i64.wrap (n5+1)) t0 (List.set a (0+n5.toNat:Nat) (D.ag (yk 8 [b] (D.cells (List.getD a
 (0+n5.toNat:Nat) default))))) q0 d)))))) (b0=b0/\∀ a,N<=a->QM n1 (D.ag r0) a)):yS T b0 QM N0 m0 c0 n1 n5 t0 r0 q0 N:=
  hE ws h
end Go.Proofs.YtlahkdflngobiaaGreatDoor
set_option maxRecDepth 100000
namespace Go.Proofs.YtlahkdflngobiaaGreatDoor
open Go Go.Proofs Go.Proofs.Tryz
def zAV:Hint:=⟨[hc 4 [0,1,5]],[],[(6,[en 0,en 1,en 2,en 3,en 4,en 5,en 6,en 7,ec 8 [20,24],en 9])]⟩
def zIf:Hint:=⟨[],[],[(9,hs 6 [ec 4 [26,28]]),(11,hs 6 [ec 4 [32,34]])]⟩
def zAU:Hint:=⟨[hc 4 [0,1,5]],[],[(6,[en 0,en 1,en 2,en 3,en 4,en 5,en 6,en 7,ec 8 [20,24],en 9])]⟩
def wv (Q:QT [.bool]) (N0:Nat) (a0:Option Addr) (e0:List D) (I:Nat) (a1:Option Addr) (e1:List D) (c1:Nat) (J:Int) (N:Nat):Prop:=AT prog 92 [.bool] Q N0 .ord (zD prog 92 4) ⟨.sv a0 2 e0 I::.sv a1 2 e1 c1::an 3 (.int .i64 J::an 21 []),[],N,none⟩
def ww (Q:QT [.bool]) (N0:Nat) (a0:Option Addr) (e0:List D) (I:Nat) (a1:Option Addr) (e1:List D) (c1:Nat) (J:Int) (N:Nat):Prop:=AT prog 49 [.bool] Q N0 .ord (zD prog 49 4) ⟨.sv a0 9 e0 I::.sv a1 9 e1 c1::an 3 (.int .i64 J::an 21 []),[],N,none⟩
theorem zIE (N:Nat) (x0 x1:D) (Q:QT [.bool]) (h :
Bel N x0->Bel N x1->∃ n:Int,(x0.cell 0)=D.j n/\∃ d:Int,(x1.cell 0)=D.j d/\Br (bne n d) (uP N (Q false)) (∃ a d,∃ c:Nat,(x0.cell 1)
 = D.sl a 2 d c/\∃ e f,∃ g:Nat,(x1.cell 1)=D.sl e 2 f g/\kB 92 [.sv a 2 d c,.sv e 2 f g] N (fun b a=>Br (!b) (uP a (Q false))
 (uP a (Q true))))):ACalls prog 48 [.bool] [PV.dg 2 x0,PV.dg 2 x1] N Q:=
  eE H0 h
theorem zGT (N:Nat) (a0:Option Addr) (e0:List D) (I:Nat) (a1:Option Addr) (e1:List D) (c1:Nat) (Q:QT [.bool]) (h :
Bel N (D.sl a0 2 e0 I)->Bel N (D.sl a1 2 e1 c1)->Br (bne (e0.length:Int) (e1.length:Int)) (uP N (Q false)) (wv Q N a0 e0 I a1 e1 c1 0
 N)):ACalls prog 92 [.bool] [PV.sv a0 2 e0 I,PV.sv a1 2 e1 c1] N Q:=
  eE zAV h
theorem zI2 (N:Nat) (I J:D) (Q:QT [.bool]) (h :
Bel N I->Bel N J->∃ n:Int,(I.cell 0)=D.j n/\∃ d:Int,(J.cell 0)=D.j d/\Br (bne n d) (uP N (Q false)) (∃ s,(I.cell 1)=D.t s/\∃
 d,(J.cell 1)=D.t d/\Br (!(ByteArray.toList s==ByteArray.toList d)) (uP N (Q false)) (∃ d,(I.cell 2)=D.t d/\∃ e,(J.cell 2)=D.t e /\
 Br (!(ByteArray.toList d==ByteArray.toList e)) (uP N (Q false)) (∃ d:Int,(I.cell 3)=D.j d/\∃ e:Int,(J.cell 3)=D.j e/\Br (bne d
 e) (uP N (Q false)) (kB 48 [.dg 2 (D.sub I 4 2),.dg 2 (D.sub J 4 2)] N (λb d=>Br (!b) (uP d (Q false)) (kB 48 [.dg 2 (D.sub I 6 2),.dg 2 (D.sub J
 6 2)] d (λb d=>Br (!b) (uP d (Q false)) (∃ a b,∃ c:Nat,(I.cell 8)=D.sl a 9 b c/\∃ e f,∃ g:Nat,(J.cell 8)=D.sl e 9 f g
 /\ kB 49 [.sv a 9 b c,.sv e 9 f g] d (λa b=>Br (!a) (uP b (Q false)) (uP b (Q true)))))))))))):ACalls prog 12 [.bool] [PV.dg 9 I,PV.dg 9 J] N Q:=
  eE zIf h
theorem zGl (N:Nat) (a0:Option Addr) (e0:List D) (I:Nat) (a1:Option Addr) (e1:List D) (c1:Nat) (Q:QT [.bool]) (h :
Bel N (D.sl a0 9 e0 I)->Bel N (D.sl a1 9 e1 c1)->Br (bne (e0.length:Int) (e1.length:Int)) (uP N (Q false)) (ww Q N a0 e0 I a1 e1 c1 0
 N)):ACalls prog 49 [.bool] [PV.sv a0 9 e0 I,PV.sv a1 9 e1 c1] N Q:=
  eE zAU h
theorem qK (Q:QT [.bool]) (N0:Nat) (a0:Option Addr) (e0:List D) (c0:Nat) (a1:Option Addr) (e1:List D) (c1:Nat) (n5:Int) (N:Nat) (h :
Br (decide (n5<(e0.length:Int))) ((0<=n5/\n5<(e0.length:Int))/\(0<=n5/\n5<(e1.length:Int))/\kB 48 [.dg 2 (List.getD e0 n5.toNat default),
 .dg 2 (List.getD e1 n5.toNat default)] N (fun b a=>Br (!b) (uP a (Q false)) (wv Q N0 a0 e0 c0 a1 e1 c1 (IntKind.i64.wrap (n5+1)) a))) (uP N
 (Q true))):wv Q N0 a0 e0 c0 a1 e1 c1 n5 N:=
  hE zAV h
theorem qU (Q:QT [.bool]) (N0:Nat) (a0:Option Addr) (e0:List D) (c0:Nat) (a1:Option Addr) (e1:List D) (c1:Nat) (n5:Int) (N:Nat) (h :
Br (decide (n5<(e0.length:Int))) ((0<=n5/\n5<(e0.length:Int))/\(0<=n5/\n5<(e1.length:Int))/\kB 12 [.dg 9 (List.getD e0 n5.toNat default),
 .dg 9 (List.getD e1 n5.toNat default)] N (fun b a=>Br (!b) (uP a (Q false)) (ww Q N0 a0 e0 c0 a1 e1 c1 (IntKind.i64.wrap (n5+1)) a))) (uP N
 (Q true))):ww Q N0 a0 e0 c0 a1 e1 c1 n5 N:=
  hE zAU h
end Go.Proofs.YtlahkdflngobiaaGreatDoor
set_option maxRecDepth 100000
namespace Go.Proofs.YtlahkdflngobiaaGreatDoor
open Go Go.Proofs Go.Proofs.Tryz
end Go.Proofs.YtlahkdflngobiaaGreatDoor
set_option maxRecDepth 100000
namespace Go.Proofs.YtlahkdflngobiaaGreatDoor
open Go Go.Proofs Go.Proofs.Tryz
def zG9:Hint:=⟨[],[],[(4,hs 5 [ec 3 [13]])]⟩
def qg:Hint:=⟨[hc 5 [0,1,5]],[],[(7,hs 7 [ec 5 [21]])]⟩
def zGa:Hint:=⟨[],[],[(3,hs 5 [ec 2 [8]])]⟩
def pX:Hint:=⟨[hc 3 [0,3,4]],[],[(5,hs 9 [ec 6 [19]])]⟩
def zGu:Hint:=⟨[],[],[(3,hs 6 [ec 4 [11,13]])]⟩
def pP:Hint:=⟨[hc 4 [0,1,5]],[],[(6,[en 0,en 1,en 2,en 3,en 4,en 5,en 6,en 7,ec 8 [20,24],en 9])]⟩
def wV:Hint:=⟨[hc 2 [0,1,5]],[],[(8,hs 9 [em 7 (some 32) [0,1,5]])]⟩
def xS (Q:QT [.int .i64]) (N0:Nat) (a0:Option Addr) (e0:List D) (I:Nat) (n1 J:Int) (N:Nat):Prop:=AT prog 6 [.int .i64] Q N0 .ord (zD prog 6 5) ⟨.sv a0 4 e0 I::.int .i64 n1::an 3 (.int .i64 J::an 21 []),[],N,none⟩
def wM (Q:QT [.sl 4]) (N0:Nat) (a0:Option Addr) (e0:List D) (I J O:Nat) (n4:Int) (r0:List D) (q0:Nat) (N:Nat):Prop:=AT prog 9 [.sl 4] Q N0 .ord (zD prog 9 3) ⟨.sv a0 4 e0 I::an 2 (.sb 0 4 0 J O::.int .i64 n4::an 18 []),[.arr 74 4 r0 q0],N,none⟩
def wR (Q:QT [.bool]) (N0:Nat) (a0:Option Addr) (e0:List D) (I:Nat) (a1:Option Addr) (e1:List D) (c1:Nat) (J:Int) (N:Nat):Prop:=AT prog 13 [.bool] Q N0 .ord (zD prog 13 4) ⟨.sv a0 4 e0 I::.sv a1 4 e1 c1::an 3 (.int .i64 J::an 21 []),[],N,none⟩
def tQ (Q:QT [.int .i64]) (N0:Nat) (a0:Option Addr) (e0:List D) (I:Nat) (n1 J:Int) (N:Nat):Prop:=AT prog 14 [.int .i64] Q N0 .ord (zD prog 14 2) ⟨.sv a0 4 e0 I::.int .i64 n1::an 3 (.int .i64 J::an 40 []),[],N,none⟩
def yi (T:List Nat) (b0:Nat) (I:Int->D->Nat->Prop) (N0:Nat) (J O:Nat) (n1 n5:Int) (t0:Nat) (r0:List D) (q0:Nat) (N:Nat):Prop:=AT prog 14 [] noQ N0 (.mk T (some b0) (4,0) I) (zD prog 14 2) ⟨.sb 0 4 0 J O::.int .i64 n1::an 3 (.int .i64 n5::an 40 []),[.arr t0 4 r0 q0],N,some ([some b0],T)⟩
theorem zGs (N:Nat) (x0:D) (n1:Int) (Q:QT [.int .i64]) (h :
Bel N x0->∃ s,(x0.cell 0)=D.t s/\Br (decide (IntKind.i64.wrap (n1 - (s.size:Int))<0)) (uP N (Q (-1))) (kI 32 [.dg 2 (D.sub x0 1 2),.j
 (IntKind.i64.wrap (n1 - (s.size:Int)))] N (fun n a=>Br (decide (n<0)) (uP a (Q (-1))) (uP a (Q n))))):ACalls prog 31 [.int .i64] [PV.dg 4 x0,PV.int .i64 n1] N Q:=
  eE zG9 h
theorem zFI (N:Nat) (a0:Option Addr) (e0:List D) (I:Nat) (n1:Int) (Q:QT [.int .i64]) (h :
Bel N (D.sl a0 4 e0 I)->Br (decide (IntKind.i64.wrap (n1 - (e0.length:Int))<0)) (uP N (Q (-1))) (xS Q N a0 e0 I (IntKind.i64.wrap (n1
 - (e0.length:Int))) 0 N)):ACalls prog 6 [.int .i64] [PV.sv a0 4 e0 I,PV.int .i64 n1] N Q:=
  eE qg h
theorem zGW (N:Nat) (x0:D) (Q:QT [.ag 4]) (h :
Bel N x0->∃ s,(x0.cell 0)=D.t s/\kA 2 41 [.dg 2 (D.sub x0 1 2)] N (fun x a=>∃ b:Bool,(x0.cell 3)=D.lit (.bool b)/\uP a (Q (D.ag [D.t s,
 (x.cell 0),(x.cell 1),D.lit (.bool b)])))):ACalls prog 40 [.ag 4] [PV.dg 4 x0] N Q:=
  eE zGa h
theorem zFk (N:Nat) (a0:Option Addr) (e0:List D) (I:Nat) (Q:QT [.sl 4]) (h :
Bel N (D.sl a0 4 e0 I)->(0<=(e0.length:Int)/\(e0.length:Int)<=(e0.length:Int)/\(56*(e0.length:Int))<=140737488355328/\(e0.length:Int) <=
 9223372036854775807)/\wM Q N a0 e0 I ((e0.length:Int)).toNat ((e0.length:Int)).toNat 0 (List.replicate ((e0.length:Int)).toNat (D.ag [D.t
 b0,D.j 0,D.sl none 2 [] 0,D.lit (.bool false)])) ((e0.length:Int)).toNat N):ACalls prog 9 [.sl 4] [PV.sv a0 4 e0 I] N Q:=
  eE pX h
theorem zG4 (N:Nat) (I J:D) (Q:QT [.bool]) (h :
Bel N I->Bel N J->∃ s,(I.cell 0)=D.t s/\∃ a,(J.cell 0)=D.t a/\Br (!(ByteArray.toList s==ByteArray.toList a)) (uP N (Q false)) (kB 48
 [.dg 2 (D.sub I 1 2),.dg 2 (D.sub J 1 2)] N (λb a=>Br (!b) (uP a (Q false)) (∃ b:Bool,(I.cell 3)=D.lit (.bool b)/\∃ c:Bool,(J.cell 3)
 = D.lit (.bool c)/\Br (!(b==c)) (uP a (Q false)) (uP a (Q true)))))):ACalls prog 50 [.bool] [PV.dg 4 I,PV.dg 4 J] N Q:=
  eE zGu h
theorem zFd (N:Nat) (a0:Option Addr) (e0:List D) (I:Nat) (a1:Option Addr) (e1:List D) (c1:Nat) (Q:QT [.bool]) (h :
Bel N (D.sl a0 4 e0 I)->Bel N (D.sl a1 4 e1 c1)->Br (bne (e0.length:Int) (e1.length:Int)) (uP N (Q false)) (wR Q N a0 e0 I a1 e1 c1
 0 N)):ACalls prog 13 [.bool] [PV.sv a0 4 e0 I,PV.sv a1 4 e1 c1] N Q:=
  eE pP h
theorem zDK (N:Nat) (a0:Option Addr) (e0:List D) (I:Nat) (n1:Int) (Q:QT [.int .i64]) (h :
Bel N (D.sl a0 4 e0 I)->tQ Q N a0 e0 I n1 0 N):ACalls prog 14 [.int .i64] [PV.sv a0 4 e0 I,PV.int .i64 n1] N Q:=
 eE wV h
theorem zCo (N:Nat) (ad:Addr) (e0:List D) (J:Nat) (n1:Int) (R:D->Int->Nat->Prop) (QM:Int->D->Nat->Prop) (I:Tree (.sl (some ad) 4 e0 J)) (O:e0≠[]) (hlen:e0.length<=maxLen) (h:∀ t:Nat,
yi (D.foot (D.sl (Option.some ad) 4 e0 J)) (Addr.block ad) QM N e0.length J n1 0 t e0 e0.length N)
  (hQ:∀ k x N,QM k x N->∃ es,x=.ag es/\es.length=e0.length/\zB es=zB e0/\R (.sl (some ad) 4 es J) k N):MC prog 14 (.sl (some ad) 4 e0 J) n1 N R:=
 zUO (sh:=sh) (H:=wV) (fuel:=400) (by kernel_rfl) (by kernel_rfl) (λt=>by kernel_rfl) I O hlen h hQ
theorem s6 (Q:QT [.int .i64]) (N0:Nat) (a0:Option Addr) (e0:List D) (J:Nat) (n1 I:Int) (N:Nat) (h :
Br (decide (I<(e0.length:Int))) ((0<=I/\I<(e0.length:Int))/\kI 31 [.dg 4 (List.getD e0 I.toNat default),.j n1] N (λn a=>Br (decide (n
 < 0)) (uP a (Q (-1))) (xS Q N0 a0 e0 J n (IntKind.i64.wrap (I+1)) a))) (uP N (Q n1))):xS Q N0 a0 e0 J n1 I N:=
  hE qg h
theorem sW (Q:QT [.sl 4]) (N0:Nat) (a0:Option Addr) (e0:List D) (c0 m3 c3:Nat) (n4:Int) (r0:List D) (q0:Nat) (N:Nat) (h :
Br (decide (n4<(e0.length:Int))) ((0<=n4/\n4<(e0.length:Int))/\kA 4 40 [.dg 4 (List.getD e0 n4.toNat default)] N (fun x a=>(0<=n4/\n4<(m3
 : Int)/\(0+n4.toNat:Nat)<r0.length)/\(0+n4.toNat:Nat)<r0.length/\wM Q N0 a0 e0 c0 m3 c3 (IntKind.i64.wrap (n4+1)) (List.set r0
 (0+n4.toNat:Nat) x) q0 a)) (w3 (m3=r0.length/\c3=q0) (∀ a b,N<=b->Fresh N0 b a [D.ag r0]->uP b (Q a r0 q0)))):wM Q N0 a0 e0 c0 m3 c3 n4 r0 q0 N:=
  hE pX h
theorem sV (Q:QT [.bool]) (N0:Nat) (a0:Option Addr) (e0:List D) (J:Nat) (a1:Option Addr) (e1:List D) (c1:Nat) (I:Int) (N:Nat) (h :
Br (decide (I<(e0.length:Int))) ((0<=I/\I<(e0.length:Int))/\(0<=I/\I<(e1.length:Int))/\kB 50 [.dg 4 (List.getD e0 I.toNat default),
 .dg 4 (List.getD e1 I.toNat default)] N (λb a=>Br (!b) (uP a (Q false)) (wR Q N0 a0 e0 J a1 e1 c1 (IntKind.i64.wrap (I+1)) a))) (uP
 N (Q true))):wR Q N0 a0 e0 J a1 e1 c1 I N:=
  hE pP h
theorem zAu (Q:QT [.int .i64]) (N0:Nat) (a0:Option Addr) (e0:List D) (J:Nat) (n1 I:Int) (N:Nat) (h :
Br (decide (I<(e0.length:Int))) (kS 51 [.j n1] N (λ_ _=>(0<=I/\I<(e0.length:Int))/\False)) (uP N (Q n1))):tQ Q N0 a0 e0 J n1 I N:=
 hE wV h
theorem vv (T:List Nat) (b0:Nat) (QM:Int->D->Nat->Prop) (N0:Nat) (m0 c0:Nat) (n1 n5:Int) (t0:Nat) (r0:List D) (q0:Nat) (N:Nat) (h :
Br (decide (n5<(m0:Int))) (∀ b,N<=b->ACalls prog 51 [.str] [.j n1] b (fun s=>let d:List D:=(List.set r0 (0+n5.toNat:Nat) (D.ag (yk
 0 [D.t s] (D.cells (List.getD r0 (0+n5.toNat:Nat) default)))));let e:List D:=(List.set d (0+n5.toNat:Nat) (D.ag (yk 1 [D.j (IntKind.i64.wrap
 (n1+1))] (D.cells (List.getD d (0+n5.toNat:Nat) default)))));fun f=>b<=f->(0<=n5/\n5<(m0:Int)/\(0+n5.toNat:Nat)<r0.length)/\(0 +
 n5.toNat:Nat)<r0.length/\(0<=n5/\n5<(m0:Int)/\(0+n5.toNat:Nat)<d.length)/\(0+n5.toNat:Nat)<d.length/\(0<=n5/\n5<(m0:Int) /\
 (0+n5.toNat:Nat)<e.length)/\(0+n5.toNat:Nat)<e.length/\∃ a b,∃ c:Nat,D.cell (List.getD e (0+n5.toNat:Nat) default) 2=D.sl a 2 b
 c/\Tree (D.sl a 2 b c)/\In T (D.sl a 2 b c)/\(0+n5.toNat:Nat)<e.length/\2<(D.cells (List.getD e (0+n5.toNat:Nat) default)).length/\D.cell
 (List.getD e (0+n5.toNat:Nat) default) 2=D.sl a 2 b c/\Once e/\Dis (D.sl a 2 b c) []/\∀ d,f<=d->MC prog 52 (D.sl a 2 b c)
 (IntKind.i64.wrap (IntKind.i64.wrap (n1+1)+1)) d (fun x=>let a:List D:=(List.set e (0+n5.toNat:Nat) (D.ag (yk 2 [x] (D.cells (List.getD e
 (0+n5.toNat:Nat) default)))));fun n b=>d<=b->(3:Int)≠(0:Int)/\(0<=n5/\n5<(m0:Int)/\(0+n5.toNat:Nat)<a.length)/\(0+n5.toNat
 : Nat)<a.length/\yi T b0 QM N0 m0 c0 (IntKind.i64.wrap (n+1)) (IntKind.i64.wrap (n5+1)) t0 (List.set a (0+n5.toNat:Nat) (D.ag
 (yk 3 [D.lit (.bool (Int.tmod n 3==0))] (D.cells (List.getD a (0+n5.toNat:Nat) default))))) q0 b))) (b0=b0/\∀ a,N<=a->QM n1 (D.ag r0) a)):yi T b0 QM N0 m0 c0 n1 n5 t0 r0 q0 N:=
  hE wV h
end Go.Proofs.YtlahkdflngobiaaGreatDoor
set_option maxRecDepth 100000
namespace Go.Proofs.YtlahkdflngobiaaGreatDoor
open Go Go.Proofs Go.Proofs.Tryz
theorem zCi (N:Nat) (x0:D) (Q:QT [.bool]) (h :
Bel N x0->∃ n:Int,(x0.cell 0)=D.j n/\kB 99 [.j n,.j 1,.j 5] N (fun b a=>Br b (uP a (Q true)) (∃ b:Int,(x0.cell 0)=D.j b/\uP a (Q
 (b==8))))):ACalls prog 98 [.bool] [PV.dg 9 x0] N Q:=
  eE H0 h
end Go.Proofs.YtlahkdflngobiaaGreatDoor
