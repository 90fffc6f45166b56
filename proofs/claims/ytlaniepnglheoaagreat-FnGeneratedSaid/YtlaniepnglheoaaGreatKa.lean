/- Printed by gen.py: what the functions come to. -/
import Derived.Test.YtlaniepnglheoaaGreatJh
set_option linter.unusedVariables false
set_option maxRecDepth 100000
namespace Go.Proofs.YtlaniepnglheoaaGreat
open Go Go.Proofs Go.Proofs.Tryz
end Go.Proofs.YtlaniepnglheoaaGreat
set_option maxRecDepth 100000
namespace Go.Proofs.YtlaniepnglheoaaGreat
open Go Go.Proofs Go.Proofs.Tryz
end Go.Proofs.YtlaniepnglheoaaGreat
set_option maxRecDepth 100000
namespace Go.Proofs.YtlaniepnglheoaaGreat
open Go Go.Proofs Go.Proofs.Tryz
end Go.Proofs.YtlaniepnglheoaaGreat
set_option maxRecDepth 100000
namespace Go.Proofs.YtlaniepnglheoaaGreat
open Go Go.Proofs Go.Proofs.Tryz
end Go.Proofs.YtlaniepnglheoaaGreat
set_option maxRecDepth 100000
namespace Go.Proofs.YtlaniepnglheoaaGreat
open Go Go.Proofs Go.Proofs.Tryz
end Go.Proofs.YtlaniepnglheoaaGreat
set_option maxRecDepth 100000
namespace Go.Proofs.YtlaniepnglheoaaGreat
open Go Go.Proofs Go.Proofs.Tryz
end Go.Proofs.YtlaniepnglheoaaGreat
set_option maxRecDepth 100000
namespace Go.Proofs.YtlaniepnglheoaaGreat
open Go Go.Proofs Go.Proofs.Tryz
def De:Hint:=⟨[],[],[(1,[en 0,en 2,en 3,eh 1,eh 4,en 5])]⟩
def pM:Hint:=⟨[hc 3 [1,5,10,11,12]],[],[(7,[en 0,en 1,en 2,en 3,en 4,en 5,eh 6,eh 7])]⟩
def Aw:Hint:=⟨[],[],[(3,[en 0,en 1,en 2,en 3,en 4,en 5,en 6,en 7,ec 8 [22],en 9,eh 10,en 11])]⟩
def vO:Hint:=⟨[hc 4 [0,3,16,17,18]],[],[(6,[en 0,en 1,en 2,en 4,ec 3 [24],ec 5 [27]])]⟩
def CI:Hint:=⟨[hc 3 [0,3,4] [(3,130,2)]],[],[(5,[en 0,en 1,en 2,en 3,en 4,en 5,en 6,en 7,en 8,en 9,en 10,en 11,en 12,eh 13,eh 14])]⟩
def sx:Hint:=⟨[hc 4 [1,2,5],hc 12 [1,2,7]],[],[(6,[en 0,en 1,en 2,en 3,en 4,en 5,en 6,en 7]),(9,hs 7 [ec 5 [37]]),(10,[en 0,en 1,en 2,en 3,en 4,en 5,en 6,en 7,en 8,en 9,eh 10,ec 11 [45],en 12,en 13]),(14,hs 7 [ec 6 [64]])]⟩
def sy (Q:QT [.sl 3]) N0 a1 e1 c1 m5 c5 I J O U Y r0 q0 N:=ksT 20 3 Q N0 (an 1 (.sv a1 0 e1 c1::an 3 (.sb 0 3 0 m5 c5::an 4 (.sv I 4 J O::.j U::.j Y::an 27 [])))) [.arr 87 3 r0 q0] N
def yK (Q:QT [.bool]) N0 a0 e0 c0 I J O U Y y0 N:=ksT 52 4 Q N0 (.sv a0 3 e0 c0::an 2 (.pb 0 0 0 0::an 12 (.sv I 9 J O::.j U::.j Y::an 11 []))) [.vd y0 9] N
def vX (Q:QT [.sl 2]) N0 I e0 J O U Y r0 q0 N:=ksT 122 3 Q N0 (.sv I 4 e0 J::an 2 (.sb 0 2 0 O U::.j Y::an 22 [])) [.arr 130 2 r0 q0] N
def wv (Q:QT [.bool]) N0 a1 e1 c1 I J N:=ksT 65 4 Q N0 (an 1 (.sv a1 2 e1 c1::.pb 0 0 0 0::an 2 (.j I::an 61 []))) [.vd J 9] N
def ye (Q:QT [.bool]) N0 a1 e1 c1 I J N:=ksT 65 12 Q N0 (an 1 (.sv a1 2 e1 c1::.pb 0 0 0 0::an 4 (.j I::an 59 []))) [.vd J 9] N
def zU (Q:QT [.sl 3]) N0 a1 e1 c1 a5 e5 c5 I J O U Y N:=ksT 20 3 Q N0 (an 1 (.sv a1 0 e1 c1::an 3 (.sv a5 3 e5 c5::an 4 (.sv I 4 J O::.j U::.j Y::an 27 [])))) [] N
theorem t7 N I e0 J(Q:QT [.row 87 3])(h :
Bel N (D.sl I 3 e0 J)->Br (Option.isNone I) (uP N (Q [] 0)) ((0=0/\0=0)/\zA [] e0 32/\∀(c:Nat),(([]++e0).length=([]++e0).length /\
 c=c)/\uP N (Q ([]++e0) c))):ksC 102 [.sv I 3 e0 J] N Q:=
  eE H0 h
theorem ET N J e0 O I(Q:QT [.sl 3])(h :
Bel N (D.sl J 3 e0 O)->Bel N I->∀ b,N<=b->ACalls prog 102 [.row 87 3] [.sv J 3 e0 O] b (λc d e=>b<=e->Bel e (D.ag c)->(c.length
 = c.length/\d=d)/\zA c [I] 32/\∀(b:Nat),w2 ((c++[I]).length=(c++[I]).length/\b=b) (∀ a d,e<=d->Fresh N d a [D.ag (c
 ++ [I])]->uP d (Q a (c++[I]) b)))):ksC 51 [.sv J 3 e0 O,.dg 3 I] N Q:=
  eE De h
theorem Nc N I e0 J a1 e1 c1(Q:QT [.sl 3])(h :
Bel N (D.sl I 4 e0 J)->Bel N (D.sl a1 0 e1 c1)->sy Q N a1 e1 c1 0 0 I e0 J (e0.length:Int) 0 [] 0 N):ksC 20 [.sv I 4 e0 J,.sv a1 0 e1 c1] N Q:=
 eE pM h
theorem A7 N I e0 J O U(Q:QT [.sl 3])(h :
Bel N (D.sl I 3 e0 J)->Bel N O->∃ n:Int,(O.cell 0)=D.j n/\Br (bne n 8) (uP N (Q I e0 J)) (Br (U==0) (uP N (Q I e0 J)) (∃ s,(O.cell 1)
 = D.t s/\∃ a d,∃ c:Nat,(O.cell 8)=D.sl a 9 d c/\ksL 0 d/\kB 52 [.sv I 3 e0 J,.dg 9 (d.getD 0 ksD)] N (λb a=>kL 3 51 [.sv I 3 e0 J,.dg 3 (D.ag [D.t s,D.j 0,D.lit (.bool b)])] a (λa b c d=>uP d (Q a b c)))))):ksC 57 [.sv I 3 e0 J,.dg 9 O,.j U] N Q:=
  eE Aw h
theorem qV N a0 e0 c0 x1(Q:QT [.bool])(h :
Bel N (D.sl a0 3 e0 c0)->Bel N x1->∃ n:Int,(x1.cell 0)=D.j n/\Br (n==1) (∃ s,(x1.cell 1)=D.t s/\kA 3 103 [.sv a0 3 e0 c0,.str s] N (fun x a
 => ∃ b:Bool,(x.cell 2)=D.lit (.bool b)/\uP a (Q b))) (∃ a b,∃ c:Nat,(x1.cell 8)=D.sl a 9 b c/\yK Q N a0 e0 c0 a b c
 (b.length:Int) 0 x1 N)):ksC 52 [.sv a0 3 e0 c0,.dg 9 x1] N Q:=
  eE vO h
theorem LY N I e0 J(Q:QT [.sl 2])(h :
Bel N (D.sl I 4 e0 J)->vX Q N I e0 J 0 0 0 [] 0 N):ksC 122 [.sv I 4 e0 J] N Q:=
 eE CI h
theorem Ij N O e0 U I J(Q:QT [.sl 2])(h :
Bel N (D.sl O 2 e0 U)->(0=0/\0=0)/\zA [] e0 24/\∀(c:Nat),(([]++e0).length=([]++e0).length/\c=c)/\zA ([]++e0) [D.ag [D.t
 I,D.lit (.bool J)]] 24/\∀(b:Nat),w2 (([]++e0++[D.ag [D.t I,D.lit (.bool J)]]).length=([]++e0++[D.ag [D.t I,D.lit (.bool J)]]).length /\
 b=b) (∀ a c,N<=c->Fresh N c a [D.ag ([]++e0++[D.ag [D.t I,D.lit (.bool J)]])]->uP c (Q a ([]++e0++[D.ag [D.t I,D.lit (.bool J)]])
 b))):ksC 116 [.sv O 2 e0 U,.str I,.bool J] N Q:=
  eE H0 h
theorem Ii N I a1 e1 c1(Q:QT [.bool])(h :
Bel N I->Bel N (D.sl a1 2 e1 c1)->∃ n:Int,(I.cell 0)=D.j n/\Br (n==1) (wv Q N a1 e1 c1 (ksW.wrap ((e1.length:Int) - 1))
 I N) (Br (n==8) (∃ a d,∃ c:Nat,(I.cell 8)=D.sl a 9 d c/\ksL 0 d/\kB 65 [.dg 9 (d.getD 0 ksD),
 .sv a1 2 e1 c1] N (λb a=>Br b (uP a (Q true)) (∃ c d,∃ e:Nat,(I.cell 8)=D.sl c 9 d e/\ksL 1 d/\∃ s,(I.cell 1)=D.t s/\kL 2 116 [.sv a1 2 e1 c1,.str s,.bool b] a (λa b c e=>kB 65 [.dg 9 (d.getD 1 ksD),.sv a 2 b
 c] e (λa b=>uP b (Q a)))))) (ye Q N a1 e1 c1 0 I N))):ksC 65 [.dg 9 I,.sv a1 2 e1 c1] N Q:=
  eE sx h
theorem BS {Q:QT [.sl 3]}{N0 a1 e1}{c1 m5 c5:Nat}{U J Y O I r0 q0 N}(h :
Br (decide (I<O)) (ksL I J/\∃ s,D.cell (J.getD I.toNat ksD) 0=D.t s/\∃ b:Bool,D.cell (J.getD I.toNat ksD) 3=D.lit (.bool b)/\∃ d:Bool,D.cell (J.getD I.toNat ksD) 3=D.lit (.bool d)/\Br (!d) (Br (decide ((e1.length:Int)
 > 0)) (ksL 0 e1/\∃ n:Int,e1.getD 0 ksD=D.j n/\((0:Int)<=(1:Int)/\1<=(e1.length:Int)/\(e1.length
 : Int)<=(e1.length:Int))/\(m5=r0.length/\c5=q0)/\∀ a,ApA a r0->∀ d,N<=d->wm d [a]->ACalls prog 51 [.sl 3] [.sv a 3 r0 c5,.dg 3 (D.ag [D.t
 s,D.j n,D.lit (.bool b)])] d (λb c e f=>d<=f->Off [a] (D.sl b 3 c e)/\(Bel f (D.sl b 3 c e)->zU Q N0 (if(c1:Int)=1
 then a1 else Option.map (λx=>Addr.add x 1) a1) (List.drop 1 (List.take ((e1.length:Int)).toNat e1)) (c1 - 1:Nat) b c e U J Y O
 (ksW.wrap (I+1)) f))) ((m5=r0.length/\c5=q0)/\∀ a,ApA a r0->∀ c,N<=c->wm c [a]->ACalls prog 51 [.sl 3] [.sv a 3 r0 c5,.dg
 3 (D.ag [D.t s,D.j 0,D.lit (.bool b)])] c (λb d e f=>c<=f->Off [a] (D.sl b 3 d e)/\(Bel f (D.sl b 3 d e) ->
 zU Q N0 a1 e1 c1 b d e U J Y O (ksW.wrap (I+1)) f)))) ((m5=r0.length/\c5=q0)/\∀ a,ApA a r0->∀ c,N<=c
 -> wm c [a]->ACalls prog 51 [.sl 3] [.sv a 3 r0 c5,.dg 3 (D.ag [D.t s,D.j 0,D.lit (.bool b)])] c (λb d e f=>c<=f->Off [a] (D.sl
 b 3 d e)/\(Bel f (D.sl b 3 d e)->zU Q N0 a1 e1 c1 b d e U J Y O (ksW.wrap (I+1)) f)))) (w3 (m5 =
 r0.length/\c5=q0) (∀ a b,N<=b->Fresh N0 b a [D.ag r0]->uP b (Q a r0 q0)))):sy Q N0 a1 e1 c1 m5 c5 U J Y O I r0 q0 N:=
  hE pM h
theorem wh {Q:QT [.bool]}{N0 a0 e0 c0 U J Y O I y0 N}(h :
Br (decide (I<O)) (ksL I J/\kL 3 57 [.sv a0 3 e0 c0,.dg 9 y0,.j I] N (λa c d e=>kB 52 [.sv a 3 c d,.dg 9
 (J.getD I.toNat ksD)] e (λb a=>Br b (uP a (Q true)) (yK Q N0 a0 e0 c0 U J Y O (ksW.wrap (I+1))
 y0 a)))) (uP N (Q false))):yK Q N0 a0 e0 c0 U J Y O I y0 N:=
  hE vO h
theorem pw {Q:QT [.sl 2]}{N0 Y e0 c0 O U I r0 J N}(h :
Br (decide (I<(e0.length:Int))) (ksL I e0/\∃ s,(if 0=0 then D.cell (e0.getD I.toNat ksD) 0 else D.sub
 (e0.getD I.toNat ksD) 0 0)=D.t s/\ksL I e0/\∃ b:Bool,(if 0=0 then D.cell (e0.getD I.toNat ksD) 3 else
 D.sub (e0.getD I.toNat ksD) 3 0)=D.lit (.bool b)/\(O=r0.length/\U=J)/\zA r0 [D.ag [D.t s,D.lit (.bool b)]] 24/\∀(c:Nat),
 vX Q N0 Y e0 c0 (r0++[D.ag [D.t s,D.lit (.bool b)]]).length c (ksW.wrap (I+1)) (r0++[D.ag [D.t s,D.lit (.bool b)]]) c N) (w3 (O
 = r0.length/\U=J) (∀ a b,N<=b->Fresh N0 b a [D.ag r0]->uP b (Q a r0 J))) ):vX Q N0 Y e0 c0 O U I r0 J N:=
  hE CI h
theorem qu {Q:QT [.bool]}{N0 a1 e1 c1 n5 y0 N}(h :
Br (decide (n5≥0)) (ksL n5 e1/\∃ s,(if 0=0 then D.cell (e1.getD n5.toNat ksD) 0 else D.sub (e1.getD n5.toNat ksD) 0 0)=D.t s/\∃ a,(y0.cell 1)=D.t a/\Br (ksE s a) (ksL n5 e1/\∃ b:Bool,(if 0 =
 0 then D.cell (e1.getD n5.toNat ksD) 1 else D.sub (e1.getD n5.toNat ksD) 1 0)=D.lit (.bool b)/\uP N (Q b)) (wv Q N0 a1 e1 c1
 (ksW.wrap (n5 - 1)) y0 N)) (ye Q N0 a1 e1 c1 0 y0 N)):wv Q N0 a1 e1 c1 n5 y0 N:=
  hE sx h
theorem rZ {Q:QT [.bool]}{N0 a1 e1 c1 I J N}(h :
∃ a d,∃ c:Nat,(J.cell 8)=D.sl a 9 d c/\Br (decide (I<(d.length:Int))) (∃ a c,∃ d:Nat,(J.cell 8)=D.sl a 9 c d/\ksL I c/\kB 65 [.dg 9 (c.getD I.toNat ksD),.sv a1 2 e1 c1] N (λb a=>Br b (uP a (Q true)) (ye Q N0 a1 e1
 c1 (ksW.wrap (I+1)) J a))) (uP N (Q false))):ye Q N0 a1 e1 c1 I J N:=
  hE sx h
theorem rW {Q:QT [.sl 3]}{N0 a1 e1}{c1:Nat}{a5 e5 c5 U J Y O I N}(h :
Br (decide (I<O)) (ksL I J/\∃ s,D.cell (J.getD I.toNat ksD) 0=D.t s/\∃ b:Bool,D.cell (J.getD I.toNat ksD) 3=D.lit (.bool b)/\∃ d:Bool,D.cell (J.getD I.toNat ksD) 3=D.lit (.bool d)/\Br (!d) (Br (decide ((e1.length:Int)
 > 0)) (ksL 0 e1/\∃ n:Int,e1.getD 0 ksD=D.j n/\((0:Int)<=(1:Int)/\1<=(e1.length:Int)/\(e1.length
 : Int)<=(e1.length:Int))/\kL 3 51 [.sv a5 3 e5 c5,.dg 3 (D.ag [D.t s,D.j n,D.lit (.bool b)])] N (λa b c d=>zU Q N0 (if(c1:Int) =
 1 then a1 else Option.map (λx=>Addr.add x 1) a1) (List.drop 1 (List.take ((e1.length:Int)).toNat e1)) (c1 - 1:Nat) a b c U J Y O
 (ksW.wrap (I+1)) d)) (kL 3 51 [.sv a5 3 e5 c5,.dg 3 (D.ag [D.t s,D.j 0,D.lit (.bool b)])] N (λa b c d=>zU Q N0 a1 e1
 c1 a b c U J Y O (ksW.wrap (I+1)) d))) (kL 3 51 [.sv a5 3 e5 c5,.dg 3 (D.ag [D.t s,D.j 0,D.lit (.bool b)])] N (λa b c
 d=>zU Q N0 a1 e1 c1 a b c U J Y O (ksW.wrap (I+1)) d))) (uP N (Q a5 e5 c5))):zU Q N0 a1 e1 c1 a5 e5 c5 U J Y O I N:=
  hE pM h
end Go.Proofs.YtlaniepnglheoaaGreat
set_option maxRecDepth 100000
namespace Go.Proofs.YtlaniepnglheoaaGreat
open Go Go.Proofs Go.Proofs.Tryz
theorem EO N x0(Q:QT [.bool])(h :
Bel N x0->∃ n:Int,(x0.cell 0)=D.j n/\kB 46 [.j n,.j 1,.j 5] N (fun b a=>Br b (uP a (Q true)) (∃ b:Int,(x0.cell 0)=D.j b/\uP a (Q
 (b==8))))):ksC 45 [.dg 9 x0] N Q:=
  eE H0 h
end Go.Proofs.YtlaniepnglheoaaGreat
set_option maxRecDepth 100000
namespace Go.Proofs.YtlaniepnglheoaaGreat
open Go Go.Proofs Go.Proofs.Tryz
def CA:Hint:=⟨[hc 2 [0,3]],[],[]⟩
def CM:Hint:=⟨[hc 3 [1,2,5]],[],[(5,hs 8 [ec 6 [23]])]⟩
def sM:Hint:=⟨[hc 3 [1,3,4]],[],[(5,hs 9 [ec 6 [17]])]⟩
def CL:Hint:=⟨[hc 2 [1,3]],[],[(4,hs 7 [ec 5 [15]])]⟩
def CD:Hint:=⟨[],[],[(1,hs 13 [ec 1 [3],ec 5 [7],ec 10 [12]])]⟩
def F6:Hint:=⟨[],[],[(2,hs 15 [ec 3 [15],ec 11 [23]]),(4,[en 0,en 1,en 2,en 3,en 4,ec 5 [32],en 6,en 7,en 8,en 9,en 10,en 11,en 12,en 13,ec 14 [41],en 15,en 16,en 17]),(12,hs 9 [ec 6 [57]])]⟩
def CB:Hint:=⟨[hc 2 [1,3]],[],[(4,hs 7 [ec 5 [15]]),(6,[en 0,ec 1 [18],en 2,en 3,en 4,en 5,en 6,ec 7 [24],en 8,en 9,en 10])]⟩
def F7:Hint:=⟨[hc 4 [1,2,5]],[],[(6,[en 0,en 1,en 2,en 3,en 4,en 5,en 6,ec 7 [21],ec 8 [20],en 9])]⟩
def F4:Hint:=⟨[],[],[(1,hs 8 [ec 1 [5],ec 5 [8]])]⟩
def CR:Hint:=⟨[hc 2 [0,1,5]],[],[]⟩
def r6:Hint:=⟨[hc 3 [1,2,3,4]],[],[(5,[en 0,en 1,en 2,en 3,en 4,en 5,en 6,ec 7 [21],en 8,eh 9,en 10,eh 11])]⟩
def L1:Hint:=⟨[],[],[(1,[en 0,en 2,ec 1 [5],ec 3 [7],en 4,en 5,eh 6])]⟩
def qd:Hint:=⟨[hc 4 [2,3,5]],[],[(6,[en 0,en 1,en 2,en 3,en 4,en 5,en 6,en 7,en 8,en 9,ec 10 [31,36],en 11])]⟩
def J1:Hint:=⟨[],[],[(3,[en 0,en 1,en 2,en 3,en 4,en 5,en 7,en 8,en 9,en 10,en 11,en 16,ec 6 [26],ec 12 [32],en 13,en 14,en 15,eh 17,en 18]),(4,hs 7 [ec 3 [38,39]]),(6,hs 13 [ec 6 [49]]),(9,[en 0,en 1,en 2,en 3,en 4,en 6,en 7,en 8,en 9,en 10,en 15,ec 5 [61],ec 11 [67],en 12,en 13,en 14,eh 16,en 17]),(11,hs 7 [ec 4 [75,77]]),(12,[en 0,en 1,en 2,en 3,en 4,en 6,en 7,en 8,en 9,en 10,en 12,en 13,en 14,en 15,en 16,en 21,ec 5 [83],ec 11 [89],ec 17 [95],en 18,en 19,en 20,eh 22,en 23]),(13,[en 0,en 1,en 2,en 3,en 4,en 5,ec 6 [103,105],en 7,eh 8,en 9])]⟩
def BD:Hint:=⟨[hc 3 [0,1,5,6] [(5,51,4)]],[],[(5,hs 26 [ec 5 [18]]),(6,[en 0,en 1,en 2,en 3,en 4,en 5,en 6,en 7,en 8,en 9,en 10,en 12,en 13,en 14,en 15,en 16,ec 11 [50],en 17,en 18,eh 19,eh 20])]⟩
def Jy:Hint:=⟨[],[],[(1,hs 5 [ec 1 [3]])]⟩
def H4:Hint:=⟨[],[],[(3,[en 0,en 1,en 2,en 3,en 4,en 5,en 6,en 12,ec 7 [22],ec 8 [21],en 9,en 10,en 11,eh 13,en 14]),(7,hs 4 [ec 1 [36]]),(9,[en 0,en 2,ec 1 [42],ec 3 [44],eh 4,en 5]),(11,hs 7 [ec 4 [53]])]⟩
def F8:Hint:=⟨[hc 5 [0,1,4,6,7]],[],[]⟩
def J2:Hint:=⟨[],[],[(6,[en 0,en 1,en 2,en 3,en 4,en 5,en 6,en 7,en 8,en 9,en 10,en 11,en 12,en 13,en 14,ec 15 [34,37],en 16,eh 17,en 18]),(7,[en 0,en 1,en 2,en 3,en 4,en 5,en 6,en 7,en 8,en 9,en 10,en 11,en 12,en 13,en 14,ec 15 [51,54],en 16]),(8,hs 9 [ec 6 [62]])]⟩
def CS:Hint:=⟨[hc 24 [0,2,4,6,13,14] [(13,27,2)]],[],[(6,hs 8 [ec 5 [43]]),(14,hs 10 [ec 3 [57]]),(20,hs 10 [ec 3 [71]]),(26,hs 14 [ec 7 [92]]),(30,hs 9 [ec 2 [105]])]⟩
def J3:Hint:=⟨[],[],[(1,hs 10 [ec 3 [12]]),(2,hs 7 [ec 4 [20]])]⟩
def xP (Q:QT [.bool]) N0 I J N:=ksT 109 2 Q N0 (.str I::an 2 (.j J::an 58 [])) [] N
def vZ (Q:QT [.int .i64]) N0 I J O N:=ksT 172 3 Q N0 (an 1 (.j I::.pb 0 0 0 0::an 2 (.j J::an 21 []))) [.vd O 2] N
def xN (Q:QT [.int .i64]) N0 I J O N:=ksT 173 3 Q N0 (an 1 (.pb 0 0 0 0::an 1 (.j I::.j J::an 17 []))) [.vd O 2] N
def vY (Q:QT [.bool]) N0 I J N:=ksT 174 2 Q N0 (an 1 (.pb 0 0 0 0::an 1 (.j I::an 35 []))) [.vd J 2] N
def vU (Q:QT [.bool]) N0 I J N:=ksT 79 2 Q N0 (an 1 (.pb 0 0 0 0::an 1 (.j I::an 24 []))) [.vd J 9] N
def tA (Q:QT [.bool]) N0 I J O N:=ksT 123 4 Q N0 (an 1 (.j I::.pb 0 0 0 0::an 2 (.j J::an 20 []))) [.vd O 9] N
def vl (Q:QT [.int .i64]) N0 I e0 J O U N:=ksT 168 2 Q N0 (.sv I 4 e0 J::.str O::an 3 (.j U::an 15 [])) [] N
def tT (Q:QT [.ag 2]) N0 n4 y0 I J O U Y aa ab ac N:=ksT 42 3 Q N0 (an 1 (.pb 0 0 0 0::.pb 1 0 0 0::.pb 2 0 0 0::.j n4::an 22 [])) [.vd y0 2,.var [.j I,.sv J 2 O U],.var [.j Y,.sv aa 2 ab ac]] N
def yy (Q:QT [.bool]) N0 I J O N:=ksT 26 4 Q N0 (an 2 (.pb 0 0 0 0::.pb 1 0 0 0::an 1 (.j I::an 33 []))) [.vd J 2,.vd O 2] N
def yU (Q:QT [.sl 4]) N0 I e0 J O U Y n6 r0 q0 N:=ksT 196 3 Q N0 (.sv I 4 e0 J::.j O::an 3 (.sb 0 4 0 U Y::.j n6::an 54 [])) [.arr 51 4 r0 q0] N
def xB (Q:QT [.ag 2,.bool]) N0 Y a1 e1 c1 n6 n7 I J O U N:=ksT 197 5 Q N0 (.str Y::.sv a1 2 e1 c1::an 2 (.pb 0 0 0 0::an 1 (.j n6::.j n7::an 36 []))) [.var [.j I,.sv J 2 O U]] N
def xk (Q:QT [.ag 2,.bool]) N0 a0 e0 c0 n2 Y aa ab y0 I J O U r2 q2 N:=ksT 114 24 Q N0 (.sv a0 4 e0 c0::an 1 (.j n2::an 1 (.pb 0 0 0 0::an 1 (.pb 1 0 0 0::an 6 (.sb 2 2 0 Y aa::.j ab::an 97 []))))) [.vd y0 9,.var [.j I,.sv J 2 O U],.arr 27 2 r2 q2] N
def xy (Q:QT [.ag 2]) N0 n4 y0 I J O U Y aa ab r3 q3 N:=ksT 42 3 Q N0 (an 1 (.pb 0 0 0 0::.pb 1 0 0 0::.pb 2 0 0 0::.j n4::an 22 [])) [.vd y0 2,.var [.j I,.sv J 2 O U],.var [.j Y,.sb 3 2 0 aa ab],.arr 27 2 r3 q3] N
theorem PH N n0 I J(Q:QT [.bool])(h :
Br (decide (n0≥I)) (uP N (Q (decide (n0<=J)))) (uP N (Q false))):ksC 63 [.j n0,.j I,.j J] N Q:=
 eE H0 h
theorem LS N I(Q:QT [.bool])(h :
xP Q N I 0 N):ksC 109 [.str I] N Q:=
 eE CA h
theorem Lg N I J(Q:QT [.int .i64])(h :
Bel N I->vZ Q N (ksW.wrap (J - 1)) 0 I N):ksC 172 [.dg 2 I,.j J] N Q:=
 eE CM h
theorem Nn N n0 I(Q:QT [.int .i64])(h :
Br (decide (n0>I)) (uP N (Q n0)) (uP N (Q I))):ksC 167 [.j n0,.j I] N Q:=
 eE H0 h
theorem DQ N I(Q:QT [.int .i64])(h :
Bel N I->xN Q N 0 0 I N):ksC 173 [.dg 2 I] N Q:=
 eE sM h
theorem Le N I(Q:QT [.bool])(h :
Bel N I->vY Q N 0 I N):ksC 174 [.dg 2 I] N Q:=
 eE CL h
theorem DS N x0(Q:QT [.bool])(h :
Bel N x0->kI 172 [.dg 2 x0,.j 30] N (fun n a=>Br (decide (n≥0)) (kI 173 [.dg 2 x0] a (fun a c=>Br (decide (a<=8)) (kB 174 [.dg 2 x0] c
 (fun b a=>uP a (Q b))) (uP c (Q false)))) (uP a (Q false)))):ksC 115 [.dg 2 x0] N Q:=
  eE CD h
theorem Lj N I(Q:QT [.bool])(h :
Bel N I->∃ n:Int,(I.cell 0)=D.j n/\Br (n==0) (∃ a b,∃ c:Nat,(I.cell 1)=D.sl a 2 b c/\uP N (Q ((b.length:Int)==0))) (uP N (Q
 false))):ksC 181 [.dg 2 I] N Q:=
  eE H0 h
theorem Ia N I(Q:QT [.int .i64])(h :
Br (ksE I (bytes [43])) (uP N (Q 2)) (Br (ksE I (bytes [45])) (uP N (Q 2)) (Br
 (ksE I (bytes [42])) (uP N (Q 2)) (Br (ksE I (bytes [61])) (uP N (Q 2)) (Br
 (ksE I (bytes [60])) (uP N (Q 2)) (Br (ksE I (bytes [38])) (uP N (Q 2)) (Br
 (ksE I (bytes [124])) (uP N (Q 2)) (Br (ksE I (bytes [33])) (uP N (Q 1)) (uP N (Q
 0)))))))))):ksC 183 [.str I] N Q:=
  eE H0 h
theorem Ip N x0(Q:QT [.bool])(h :
Bel N x0->∃ n:Int,(x0.cell 0)=D.j n/\Br (n==4) (∃ s,(x0.cell 1)=D.t s/\kI 183 [.str s] N (fun a b=>Br (decide (a>0)) (∃ a,(x0.cell
 2)=D.t a/\uP b (Q (ksE a b0))) (uP b (Q false)))) (Br (n==1) (∃ a,(x0.cell 1)=D.t a/\kB 109 [.str a] N
 (fun b a=>Br b (∃ b,(x0.cell 2)=D.t b/\uP a (Q (ksE b b0))) (uP a (Q false)))) (Br (n==6) (∃ a,(x0.cell 1)
 = D.t a/\kB 109 [.str a] N (fun a b=>Br a (∃ a,(x0.cell 2)=D.t a/\uP b (Q (ksE a b0))) (uP b (Q
 false)))) (Br (n==8) (∃ a,(x0.cell 1)=D.t a/\kB 109 [.str a] N (fun a b=>Br a (∃ a,(x0.cell 2)=D.t a/\uP b (Q (ksE a b0))) (uP b (Q false)))) (Br (n==9) (∃ a,(x0.cell 1)=D.t a/\kB 109 [.str a] N (fun a b=>Br a (∃ a,(x0.cell 2) =
 D.t a/\kB 109 [.str a] b (fun a b=>Br a (∃ a,(x0.cell 1)=D.t a/\∃ c,(x0.cell 2)=D.t c/\uP b (Q (!(ksE a c)))) (uP b (Q false)))) (uP b (Q false)))) (∃ a,(x0.cell 1)=D.t a/\Br (ksE a b0) (∃ a,
 (x0.cell 2)=D.t a/\uP N (Q (ksE a b0))) (uP N (Q false)))))))):ksC 182 [.dg 9 x0] N Q:=
  eE H0 h
theorem Hq N I(Q:QT [.bool])(h :
Bel N I->∃ n:Int,(I.cell 0)=D.j n/\Br (n==6) (kB 115 [.dg 2 (D.sub I 4 2)] N (λb a=>Br (!(true==b)) (uP a (Q false)) (∃ b:Int,
 (I.cell 0)=D.j b/\kB 115 [.dg 2 (D.sub I 6 2)] a (λa c=>Br (!((b==9)==a)) (uP c (Q false)) (∃ a:Int,(I.cell 0)=D.j a/\Br
 (bne a 9) (kB 181 [.dg 2 (D.sub I 6 2)] c (λa b=>Br (!a) (uP b (Q false)) (∃ a:Int,(I.cell 0)=D.j a/\Br (a==2) (∃ a:Int,
 (I.cell 3)=D.j a/\kB 63 [.j a,.j 0,.j 10006] b (λa b=>Br a (kB 182 [.dg 9 I] b (λa b=>uP b (Q a))) (uP b (Q false))))
 (Br (a==3) (∃ a:Int,(I.cell 3)=D.j a/\kB 63 [.j a,.j 0,.j 1] b (λa b=>Br a (kB 182 [.dg 9 I] b (λa b=>uP b (Q
 a))) (uP b (Q false)))) (∃ a:Int,(I.cell 3)=D.j a/\kB 63 [.j a,.j 0,.j 0] b (λa b=>Br a (kB 182 [.dg 9 I] b (λa b=>uP
 b (Q a))) (uP b (Q false)))))))) (∃ a:Int,(I.cell 0)=D.j a/\Br (a==2) (∃ a:Int,(I.cell 3)=D.j a/\kB 63 [.j a,.j 0,.j 10006]
 c (λa b=>Br a (kB 182 [.dg 9 I] b (λa b=>uP b (Q a))) (uP b (Q false)))) (Br (a==3) (∃ a:Int,(I.cell 3)=D.j a/\kB
 63 [.j a,.j 0,.j 1] c (λa b=>Br a (kB 182 [.dg 9 I] b (λa b=>uP b (Q a))) (uP b (Q false)))) (∃ a:Int,(I.cell 3) =
 D.j a/\kB 63 [.j a,.j 0,.j 0] c (λa b=>Br a (kB 182 [.dg 9 I] b (λa b=>uP b (Q a))) (uP b (Q false))))))))))) (∃ a
 : Int,(I.cell 0)=D.j a/\kB 115 [.dg 2 (D.sub I 4 2)] N (λb c=>Br (!((a==9)==b)) (uP c (Q false)) (Br (!(a==9)) (kB 181 [.dg
 2 (D.sub I 4 2)] c (λa b=>Br (!a) (uP b (Q false)) (∃ a:Int,(I.cell 0)=D.j a/\kB 115 [.dg 2 (D.sub I 6 2)] b (λb c=>
 Br (!((a==9)==b)) (uP c (Q false)) (∃ a:Int,(I.cell 0)=D.j a/\Br (bne a 9) (kB 181 [.dg 2 (D.sub I 6 2)] c (λa b=>Br
 (!a) (uP b (Q false)) (∃ a:Int,(I.cell 0)=D.j a/\Br (a==2) (∃ a:Int,(I.cell 3)=D.j a/\kB 63 [.j a,.j 0,.j 10006] b
 (λa b=>Br a (kB 182 [.dg 9 I] b (λa b=>uP b (Q a))) (uP b (Q false)))) (Br (a==3) (∃ a:Int,(I.cell 3)=D.j a /\
 kB 63 [.j a,.j 0,.j 1] b (λa b=>Br a (kB 182 [.dg 9 I] b (λa b=>uP b (Q a))) (uP b (Q false)))) (∃ a:Int,(I.cell
 3)=D.j a/\kB 63 [.j a,.j 0,.j 0] b (λa b=>Br a (kB 182 [.dg 9 I] b (λa b=>uP b (Q a))) (uP b (Q false)))))))) (∃
 a:Int,(I.cell 0)=D.j a/\Br (a==2) (∃ a:Int,(I.cell 3)=D.j a/\kB 63 [.j a,.j 0,.j 10006] c (λa b=>Br a (kB 182
 [.dg 9 I] b (λa b=>uP b (Q a))) (uP b (Q false)))) (Br (a==3) (∃ a:Int,(I.cell 3)=D.j a/\kB 63 [.j a,.j 0,.j 1] c
 (λa b=>Br a (kB 182 [.dg 9 I] b (λa b=>uP b (Q a))) (uP b (Q false)))) (∃ a:Int,(I.cell 3)=D.j a/\kB 63 [.j a,
 .j 0,.j 0] c (λa b=>Br a (kB 182 [.dg 9 I] b (λa b=>uP b (Q a))) (uP b (Q false))))))))))) (∃ a:Int,(I.cell 0)=D.j
 a/\kB 115 [.dg 2 (D.sub I 6 2)] c (λb c=>Br (!((a==9)==b)) (uP c (Q false)) (∃ a:Int,(I.cell 0)=D.j a/\Br (bne a 9)
 (kB 181 [.dg 2 (D.sub I 6 2)] c (λa b=>Br (!a) (uP b (Q false)) (∃ a:Int,(I.cell 0)=D.j a/\Br (a==2) (∃ a:Int,(I.cell
 3)=D.j a/\kB 63 [.j a,.j 0,.j 10006] b (λa b=>Br a (kB 182 [.dg 9 I] b (λa b=>uP b (Q a))) (uP b (Q false))))
 (Br (a==3) (∃ a:Int,(I.cell 3)=D.j a/\kB 63 [.j a,.j 0,.j 1] b (λa b=>Br a (kB 182 [.dg 9 I] b (λa b=>uP
 b (Q a))) (uP b (Q false)))) (∃ a:Int,(I.cell 3)=D.j a/\kB 63 [.j a,.j 0,.j 0] b (λa b=>Br a (kB 182 [.dg 9 I] b
 (λa b=>uP b (Q a))) (uP b (Q false)))))))) (∃ a:Int,(I.cell 0)=D.j a/\Br (a==2) (∃ a:Int,(I.cell 3)=D.j a/\kB
 63 [.j a,.j 0,.j 10006] c (λa b=>Br a (kB 182 [.dg 9 I] b (λa b=>uP b (Q a))) (uP b (Q false)))) (Br (a==3) (∃
 a:Int,(I.cell 3)=D.j a/\kB 63 [.j a,.j 0,.j 1] c (λa b=>Br a (kB 182 [.dg 9 I] b (λa b=>uP b (Q a))) (uP
 b (Q false)))) (∃ a:Int,(I.cell 3)=D.j a/\kB 63 [.j a,.j 0,.j 0] c (λa b=>Br a (kB 182 [.dg 9 I] b (λa b=>uP
 b (Q a))) (uP b (Q false)))))))))))) ):ksC 130 [.dg 9 I] N Q:=
  eE F6 h
theorem Im N x0(Q:QT [.int .i64])(h :
Bel N x0->∃ n:Int,(x0.cell 0)=D.j n/\Br (n==1) (uP N (Q 0)) (Br (n==2) (uP N (Q 0)) (Br (n==3) (uP N (Q 0)) (Br (n==4) (∃ s,(x0.cell 1) =
 D.t s/\kI 183 [.str s] N (fun a b=>uP b (Q a))) (Br (n==6) (uP N (Q 1)) (Br (n==9) (uP N (Q 1)) (Br (n==10) (uP N (Q 1)) (Br (n==11) (uP N (Q
 1)) (Br (n==12) (uP N (Q 1)) (Br (n==13) (uP N (Q 1)) (Br (n==7) (uP N (Q 2)) (Br (n==8) (uP N (Q 2)) (Br (n==5) (uP N (Q 3)) (uP N (Q
 (-1)))))))))))))))):ksC 131 [.dg 9 x0] N Q:=
  eE H0 h
theorem LT N I(Q:QT [.bool])(h :
Bel N I->vU Q N 0 I N):ksC 79 [.dg 9 I] N Q:=
 eE CB h
theorem DY N x0 n1(Q:QT [.int .i64])(h :
Bel N x0->∃ n:Int,(x0.cell 0)=D.j n/\Br (n==10) (uP N (Q (ksW.wrap (n1+1)))) (Br (n==11) (uP N (Q (ksW.wrap (n1 - 1)))) (uP N
 (Q n1)))):ksC 178 [.dg 9 x0,.j n1] N Q:=
  eE H0 h
theorem PJ N I J(Q:QT [.bool])(h :
Bel N I->kB 63 [.j J,.j 0,.j 2] N (λb a=>Br (!b) (uP a (Q false)) (tA Q N J 0 I a))):ksC 123 [.dg 9 I,.j J] N Q:=
 eE F7 h
theorem Hl N I J(Q:QT [.bool])(h :
Bel N I->kB 79 [.dg 9 I] N (λb a=>Br b (kB 123 [.dg 9 I,.j J] a (λa b=>uP b (Q a))) (uP a (Q false)))):ksC 75 [.dg 9 I,.j J] N Q:=
 eE F4 h
theorem Lm N I e0 J O(Q:QT [.int .i64])(h :
Bel N (D.sl I 4 e0 J)->vl Q N I e0 J O (ksW.wrap ((e0.length:Int) - 1)) N):ksC 168 [.sv I 4 e0 J,.str O] N Q:=
 eE CR h
theorem Ld N I(Q:QT [.ag 2])(h :
Bel N I->∃ n:Int,(I.cell 0)=D.j n/\tT Q N 0 I 0 none [] 0 n none [] 0 N):ksC 42 [.dg 2 I] N Q:=
 eE r6 h
theorem Nq N(Q:QT [.ag 2])(h :
uP N (Q (D.ag [D.j 1,D.sl none 2 [] 0]))):ksC 82 [] N Q:=
 eE H0 h
theorem Lc N(Q:QT [.ag 2])(h :
uP N (Q (D.ag [D.j 2,D.sl none 2 [] 0]))):ksC 132 [] N Q:=
 eE H0 h
theorem Lp N U e0 Y J I O(Q:QT [.sl 4])(h :
Bel N (D.sl U 4 e0 Y)->Bel N I->(0=0/\0=0)/\zA [] e0 56/\∀(c:Nat),(([]++e0).length=([]++e0).length/\c=c)/\zA ([]++e0)
 [D.ag [D.t J,(I.cell 0),(I.cell 1),D.j O]] 56/\∀(b:Nat),w2 (([]++e0++[D.ag [D.t J,(I.cell 0),(I.cell 1),D.j O]]).length=([]++e0 ++
 [D.ag [D.t J,(I.cell 0),(I.cell 1),D.j O]]).length/\b=b) (∀ a c,N<=c->Fresh N c a [D.ag ([]++e0++[D.ag [D.t J,(I.cell 0),(I.cell
 1),D.j O]])]->uP c (Q a ([]++e0++[D.ag [D.t J,(I.cell 0),(I.cell 1),D.j O]]) b))):ksC 118 [.sv U 4 e0 Y,.str J,.dg 2 I,.j O] N Q:=
  eE H0 h
theorem Ez N I J(Q:QT [.ag 2])(h :
Bel N I->Bel N J->kA 2 42 [.dg 2 I] N (λx b=>kA 2 42 [.dg 2 J] b (λb c=>w3 (2=([x,b]).length/\2=2) (∀ a d,c<=d->Fresh N
 d a [D.ag [x,b]]->uP d (Q (D.ag [D.j 3,D.sl a 2 [x,b] 2])))))):ksC 139 [.dg 2 I,.dg 2 J] N Q:=
  eE L1 h
theorem FY N x0 x1(Q:QT [.bool])(h :
Bel N x0->Bel N x1->∃ n:Int,(x0.cell 0)=D.j n/\∃ b:Int,(x1.cell 0)=D.j b/\Br (bne n b) (uP N (Q false)) (∃ a b,∃ c:Nat,(x0.cell 1)
 = D.sl a 2 b c/\∃ a c,∃ d:Nat,(x1.cell 1)=D.sl a 2 c d/\Br (bne (b.length:Int) (c.length:Int)) (uP N (Q false))
 (yy Q N 0 x0 x1 N))):ksC 26 [.dg 2 x0,.dg 2 x1] N Q:=
  eE qd h
theorem qZ N a0 e0 c0 x1 n2(Q:QT [.ag 2,.bool])(h :
Bel N (D.sl a0 4 e0 c0)->Bel N x1->∃ n:Int,(x1.cell 0)=D.j n/\Br (n==6) (∃ s,(x1.cell 1)=D.t s/\∃ a d,∃ c:Nat,(x1.cell 8)=D.sl a 9 d
 c/\ksL 0 d/\kL 4 118 [.sv a0 4 e0 c0,.str s,.dg 2 (D.sub x1 4 2),.j n2] N (fun a c e f=>kAB 2 62 [.sv a
 4 c e,.dg 9 (d.getD 0 ksD),.j n2] f (fun x b a=>kA 2 139 [.dg 2 (D.sub x1 4 2),.dg 2 x] a (fun a c=>uP c (Q a b))))) (Br (n==8)
 (∃ a b,∃ c:Nat,(x1.cell 8)=D.sl a 9 b c/\ksL 0 b/\kAB 2 62 [.sv a0 4 e0 c0,.dg 9 (b.getD 0 ksD),.j n2] N (fun a b c=>Br (!b) (uP c (Q (D.ag [D.j 0,D.sl none 2 [] 0]) false)) (∃ b,(x1.cell 1)=D.t b/\∃ d e,∃ f :
 Nat,(x1.cell 8)=D.sl d 9 e f/\ksL 1 e/\kL 4 118 [.sv a0 4 e0 c0,.str b,.dg 2 a,.j n2] c (fun a
 b c d=>kAB 2 62 [.sv a 4 b c,.dg 9 (e.getD 1 ksD),.j n2] d (fun a b c=>uP c (Q a b)))))) (kA 2 139 [.dg 2 (D.sub
 x1 4 2),.dg 2 (D.sub x1 6 2)] N (fun a b=>∃ c,(x1.cell 1)=D.t c/\∃ d,(x1.cell 2)=D.t d/\∃ e f,∃ g:Nat,(x1.cell 8)=D.sl e 9
 f g/\ksL 0 f/\kL 4 118 [.sv a0 4 e0 c0,.str c,.dg 2 a,.j n2] b (fun b c e g=>kL 4 118 [.sv
 b 4 c e,.str d,.dg 2 (D.sub x1 4 2),.j n2] g (fun b c d e=>kAB 2 62 [.sv b 4 c d,.dg 9 (f.getD 0 ksD),.j n2] e
 (fun b c d=>Br c (kB 26 [.dg 2 b,.dg 2 (D.sub x1 6 2)] d (fun b c=>uP c (Q a b))) (uP d (Q a false))))))))):ksC 169 [.sv a0 4 e0 c0,.dg 9 x1,.j n2] N Q:=
  eE J1 h
theorem LR N x0(Q:QT [.bool])(h :
Bel N x0->∃ n:Int,(x0.cell 0)=D.j n/\Br (n==1) (∃ a b,∃ c:Nat,(x0.cell 1)=D.sl a 2 b c/\uP N (Q ((b.length:Int)==0))) (∃ a:Int,
 (x0.cell 0)=D.j a/\Br (a==2) (∃ a b,∃ c:Nat,(x0.cell 1)=D.sl a 2 b c/\uP N (Q ((b.length:Int)==0))) (uP N (Q false)))):ksC 110 [.dg 2 x0] N Q:=
  eE H0 h
theorem Ic N I e0 J O(Q:QT [.sl 4])(h :
Bel N (D.sl I 4 e0 J)->yU Q N I e0 J O 0 0 0 [] 0 N):ksC 196 [.sv I 4 e0 J,.j O] N Q:=
 eE BD h
theorem DW N I(Q:QT [.ag 2])(h :
Bel N I->kA 2 42 [.dg 2 I] N (λx b=>w3 (1=([x]).length/\1=1) (∀ a c,b<=c->Fresh N c a [D.ag [x]]->uP c (Q (D.ag [D.j 4,D.sl a 2 [x]
 1]))))):ksC 138 [.dg 2 I] N Q:=
  eE Jy h
theorem It N J e0 O I U(Q:QT [.ag 2,.bool])(h :
Bel N (D.sl J 4 e0 O)->Bel N I->∃ n:Int,(I.cell 0)=D.j n/\Br (n==12) (kL 4 196 [.sv J 4 e0 O,.j U] N (λa c d e=>∃ f g,∃ h
 : Nat,(I.cell 8)=D.sl f 9 g h/\ksL 0 g/\kI 178 [.dg 9 I,.j U] e (λe f=>kAB 2 62 [.sv a 4 c
 d,.dg 9 (g.getD 0 ksD),.j e] f (λx b a=>Br (!b) (uP a (Q (D.ag [D.j 0,D.sl none 2 [] 0]) false)) (∃ b:Int,(I.cell 0)=D.j b /\
 Br (b==10) (kA 2 138 [.dg 2 x] a (λa b=>uP b (Q a true))) (∃ b:Int,(I.cell 0)=D.j b/\Br (b==13) (kA 2 138 [.dg 2 x] a (λa
 b=>kB 110 [.dg 2 x] b (λb c=>uP c (Q a b)))) (∃ b:Int,(x.cell 0)=D.j b/\Br (b==4) (∃ b c,∃ d:Nat,(x.cell 1)=D.sl
 b 2 c d/\ksL 0 c/\kA 2 42 [.dg 2 (c.getD 0 ksD)] a (λa b=>uP b (Q a true))) (uP a
 (Q (D.ag [D.j 0,D.sl none 2 [] 0]) false))))))))) (∃ a b,∃ c:Nat,(I.cell 8)=D.sl a 9 b c/\ksL 0 b/\kI 178 [.dg 9 I,.j U] N (λa c=>kAB 2 62 [.sv J 4 e0 O,.dg 9 (b.getD 0 ksD),.j a] c (λa b c=>Br (!b) (uP c
 (Q (D.ag [D.j 0,D.sl none 2 [] 0]) false)) (∃ b:Int,(I.cell 0)=D.j b/\Br (b==10) (kA 2 138 [.dg 2 a] c (λa b=>uP b (Q a true)))
 (∃ b:Int,(I.cell 0)=D.j b/\Br (b==13) (kA 2 138 [.dg 2 a] c (λb c=>kB 110 [.dg 2 a] c (λa c=>uP c (Q b a)))) (∃
 b:Int,(a.cell 0)=D.j b/\Br (b==4) (∃ b d,∃ e:Nat,(a.cell 1)=D.sl b 2 d e/\ksL 0 d/\kA 2 42 [.dg 2 (d.getD 0 ksD)] c (λa b=>uP b (Q a true))) (uP c (Q (D.ag [D.j 0,D.sl none 2 [] 0]) false))))))))):ksC 170 [.sv J 4 e0 O,.dg 9 I,.j U] N Q:=
  eE H4 h
theorem PK N s0 a1 e1 c1(Q:QT [.ag 2,.bool])(h :
Bel N (D.sl a1 2 e1 c1)->Br (ksE s0 (bytes [38])) (xB Q N s0 a1 e1 c1 2 0 0 none [] 0 N) (Br (ksE s0 (bytes [124])) (xB Q N s0 a1 e1 c1 2 0 0 none [] 0 N) (Br (ksE s0 (bytes [33]))
 (xB Q N s0 a1 e1 c1 2 0 0 none [] 0 N) (xB Q N s0 a1 e1 c1 1 0 0 none [] 0 N)))):ksC 197 [.str s0,.sv a1 2 e1 c1] N Q:=
  eE F8 h
theorem Ll N I a1 e1 c1(Q:QT [.ag 2,.bool])(h :
Bel N I->Bel N (D.sl a1 2 e1 c1)->∃ n:Int,(I.cell 0)=D.j n/\Br (n==4) (∃ s,(I.cell 1)=D.t s/\kAB 2 197 [.str s,.sv a1 2 e1 c1] N (λx b
 a=>uP a (Q x b))) (Br (n==5) (ksL 1 e1/\ksL 0 e1/\∃ a:Int,(if 0=0
 then D.cell (e1.getD 0 ksD) 0 else D.sub (e1.getD 0 ksD) 0 0)=D.j a/\Br (a==2) (ksL 1 e1/\ksL 2 e1/\kB 26 [.dg 2 (e1.getD 1 ksD),.dg 2 (e1.getD 2 ksD)] N (λa b=>uP b (Q (e1.getD 1 ksD) a))) (uP N (Q (e1.getD 1 ksD) false))) (ksL 0 e1/\∃ b:Int,(if 0=0 then D.cell (e1.getD 0 ksD) 0 else D.sub (e1.getD 0 ksD) 0 0)=D.j b/\Br (b==3) (ksL 0 e1/\∃ a b,∃ c:Nat,(if 0=0
 then D.cell (e1.getD 0 ksD) 1 else D.sub (e1.getD 0 ksD) 1 0)=D.sl a 2 b c/\ksL 0 b/\ksL 1 e1/\kB 26 [.dg 2 (b.getD 0 ksD),.dg 2 (e1.getD 1 ksD)] N (λa b=>Br a (ksL 0 e1/\∃ a c,∃ d:Nat,(if 0=0 then D.cell (e1.getD 0 ksD) 1 else D.sub (e1.getD 0 ksD) 1 0)=D.sl a 2 c d
 /\ ksL 1 c/\kA 2 42 [.dg 2 (c.getD 1 ksD)] b (λa b=>uP b (Q a true))) (uP b (Q (D.ag [D.j
 0,D.sl none 2 [] 0]) false)))) (uP N (Q (D.ag [D.j 0,D.sl none 2 [] 0]) false))))):ksC 171 [.dg 9 I,.sv a1 2 e1 c1] N Q:=
  eE J2 h
theorem Ln N J e0 O I U(Q:QT [.ag 2,.bool])(h :
Bel N (D.sl J 4 e0 O)->Bel N I->∃ n:Int,(I.cell 0)=D.j n/\Br (n==1) (∃ s,(I.cell 1)=D.t s/\kI 168 [.sv J 4 e0 O,.str s] N (λa b
 => Br (decide (a<0)) (uP b (Q (D.ag [D.j 0,D.sl none 2 [] 0]) false)) (ksL a e0/\∃ c:Int,(if 0=0 then D.cell (e0.getD a.toNat ksD) 3 else D.sub (e0.getD a.toNat ksD) 3 0)=D.j c/\Br (bne c U) (uP b (Q (D.ag [D.j 0,D.sl none 2 [] 0]) false)) (ksL a e0/\kA 2 42 [.dg 2 (if 2=0 then D.cell (e0.getD a.toNat ksD) 1 else D.sub (e0.getD a.toNat ksD) 1 2)] b
 (λx a=>uP a (Q x true)))))) (Br (n==2) (kA 2 82 [] N (λa b=>uP b (Q a true))) (Br (n==3) (kA 2 132 [] N (λa b=>uP b (Q a
 true))) (Br (n==6) (kAB 2 169 [.sv J 4 e0 O,.dg 9 I,.j U] N (λa b c=>uP c (Q a b))) (Br (n==8) (kAB 2 169 [.sv J 4 e0 O,.dg 9 I,.j
 U] N (λa b c=>uP c (Q a b))) (Br (n==9) (kAB 2 169 [.sv J 4 e0 O,.dg 9 I,.j U] N (λa b c=>uP c (Q a b))) (Br (n ==
 10) (kAB 2 170 [.sv J 4 e0 O,.dg 9 I,.j U] N (λa b c=>uP c (Q a b))) (Br (n==11) (kAB 2 170 [.sv J 4 e0 O,.dg 9 I,.j U] N (fun
 a b c=>uP c (Q a b))) (Br (n==12) (kAB 2 170 [.sv J 4 e0 O,.dg 9 I,.j U] N (λa b c=>uP c (Q a b))) (Br (n==13) (kAB 2
 170 [.sv J 4 e0 O,.dg 9 I,.j U] N (λa b c=>uP c (Q a b))) (xk Q N J e0 O U 0 0 0 I 0 none [] 0 [] 0 N))))))))))):ksC 114 [.sv J 4 e0 O,.dg 9 I,.j U] N Q:=
  eE CS h
theorem Lo N I e0 J O U(Q:QT [.ag 2,.bool])(h :
Bel N (D.sl I 4 e0 J)->Bel N O->kAB 2 114 [.sv I 4 e0 J,.dg 9 O,.j U] N (λx b a=>Br (!b) (uP a (Q (D.ag [D.j 0,D.sl none 2 [] 0])
 false)) (kB 115 [.dg 2 x] a (λa b=>Br (!a) (uP b (Q (D.ag [D.j 0,D.sl none 2 [] 0]) false)) (uP b (Q x true))))) ):ksC 62 [.sv I 4 e0 J,.dg 9 O,.j U] N Q:=
  eE J3 h
theorem pi {Q:QT [.bool]}{N0 J I N}(h :
Br (decide (I<(J.size:Int))) ((0<=I/\I<(J.size:Int))/\Br (decide ((UInt8.toNat (Array.getD (ByteArray.data J) I.toNat (OfNat.ofNat 0)) :
 Int)≥97)) ((0<=I/\I<(J.size:Int))/\Br (!(decide ((UInt8.toNat (Array.getD (ByteArray.data J) I.toNat (OfNat.ofNat 0)):Int)<=122))) (Br (I ==
 0) (uP N (Q false)) ((0<=I/\I<(J.size:Int))/\Br (decide ((UInt8.toNat (Array.getD (ByteArray.data J) I.toNat (OfNat.ofNat 0)):Int)<48)) (uP N (Q
 false)) ((0<=I/\I<(J.size:Int))/\Br (decide ((UInt8.toNat (Array.getD (ByteArray.data J) I.toNat (OfNat.ofNat 0)):Int)>57)) (uP N (Q false))
 (xP Q N0 J (ksW.wrap (I+1)) N)))) (xP Q N0 J (ksW.wrap (I+1)) N)) (Br (I==0) (uP N (Q false)) ((0<=I/\I
 < (J.size:Int))/\Br (decide ((UInt8.toNat (Array.getD (ByteArray.data J) I.toNat (OfNat.ofNat 0)):Int)<48)) (uP N (Q false)) ((0<=I/\I<(J.size
 : Int))/\Br (decide ((UInt8.toNat (Array.getD (ByteArray.data J) I.toNat (OfNat.ofNat 0)):Int)>57)) (uP N (Q false)) (xP Q N0 J
 (ksW.wrap (I+1)) N))))) (kB 63 [.j (J.size:Int),.j 1,.j 4] N (λb a=>Br b (Br (!(ksE J (bytes [105,
 102]))) (Br (!(ksE J (bytes [108,101,116]))) (Br (!(ksE J (bytes [114,101,99]))) (Br
 (!(ksE J (bytes [114,117,110]))) (∀ b,a<=b->Q (!(ksE J (bytes [108,105,102,
 116]))) b) (uP a (Q false))) (uP a (Q false))) (uP a (Q false))) (uP a (Q false))) (uP a (Q false))))):xP Q N0 J I N:=
  hE CA h
theorem p8 {Q:QT [.int .i64]}{N0 n1 n5 y0 N}(h :
∃ a b,∃ c:Nat,(y0.cell 1)=D.sl a 2 b c/\Br (decide (n5<(b.length:Int))) (Br (decide (n1≥0)) (∃ a b,∃ c:Nat,(y0.cell 1)=D.sl
 a 2 b c/\ksL n5 b/\kI 172 [.dg 2 (b.getD n5.toNat ksD),.j n1] N (fun n a=>vZ Q N0 n
 (ksW.wrap (n5+1)) y0 a)) (uP N (Q n1))) (uP N (Q n1))):vZ Q N0 n1 n5 y0 N:=
  hE CM h
theorem u4 {Q:QT [.int .i64]}{N0 O I J N}(h :
∃ a b,∃ c:Nat,(J.cell 1)=D.sl a 2 b c/\Br (decide (I<(b.length:Int))) (∃ a b,∃ c:Nat,(J.cell 1)=D.sl a 2 b c/\ksL I b/\kI 173 [.dg 2 (b.getD I.toNat ksD)] N (λn a=>kI 167 [.j O,.j n] a (λa b=>xN Q N0
 a (ksW.wrap (I+1)) J b))) (uP N (Q (ksW.wrap (O+1))))):xN Q N0 O I J N:=
  hE sM h
theorem p7 {Q:QT [.bool]}{N0 n3 y0 N}(h :
∃ a d,∃ c:Nat,(y0.cell 1)=D.sl a 2 d c/\Br (decide (n3<(d.length:Int))) (∃ a c,∃ d:Nat,(y0.cell 1)=D.sl a 2 c d/\ksL n3 c/\kB 174 [.dg 2 (c.getD n3.toNat ksD)] N (fun b a=>Br (!b) (uP a (Q false)) (vY Q N0 (ksW.wrap
 (n3+1)) y0 a))) (∃ n:Int,(y0.cell 0)=D.j n/\Br (n==1) (∃ a b,∃ c:Nat,(y0.cell 1)=D.sl a 2 b c/\uP N (Q ((b.length:Int) ==
 0))) (Br (n==2) (∃ a b,∃ c:Nat,(y0.cell 1)=D.sl a 2 b c/\uP N (Q ((b.length:Int)==0))) (Br (n==3) (∃ a b,∃ c:Nat,
 (y0.cell 1)=D.sl a 2 b c/\uP N (Q ((b.length:Int)==2))) (Br (n==4) (∃ a b,∃ c:Nat,(y0.cell 1)=D.sl a 2 b c/\uP N (Q
 ((b.length:Int)==1))) (uP N (Q false))))))):vY Q N0 n3 y0 N:=
  hE CL h
theorem pj {Q:QT [.bool]}{N0 J I N}(h :
∃ a d,∃ c:Nat,(I.cell 8)=D.sl a 9 d c/\Br (decide (J<(d.length:Int))) (∃ a c,∃ d:Nat,(I.cell 8)=D.sl a 9 c d/\ksL J c/\kB 79 [.dg 9 (c.getD J.toNat ksD)] N (λb a=>Br (!b) (uP a (Q false)) (vU Q N0 (ksW.wrap
 (J+1)) I a))) (kB 130 [.dg 9 I] N (λa b=>Br a (∃ a c,∃ d:Nat,(I.cell 8)=D.sl a 9 c d/\kI 131 [.dg 9 I] b (λn a=>uP
 a (Q ((c.length:Int)==n)))) (uP b (Q false))))):vU Q N0 J I N:=
  hE CB h
theorem Cy {Q:QT [.bool]}{N0 O I J N}(h :
∃ a d,∃ c:Nat,(J.cell 8)=D.sl a 9 d c/\Br (decide (I<(d.length:Int))) (∃ a c,∃ d:Nat,(J.cell 8)=D.sl a 9 c d/\ksL I c/\kI 178 [.dg 9 J,.j O] N (λn a=>kB 123 [.dg 9 (c.getD I.toNat ksD),.j n] a (λb a=>Br (!b) (uP a (Q
 false)) (tA Q N0 O (ksW.wrap (I+1)) J a)))) (uP N (Q true))):tA Q N0 O I J N:=
  hE F7 h
theorem AD {Q:QT [.int .i64]}{N0 a0 e0 c0 s1 n5 N}(h :
Br (decide (n5≥0)) (ksL n5 e0/\∃ s,(if 0=0 then D.cell (e0.getD n5.toNat ksD) 0 else D.sub (e0.getD n5.toNat ksD) 0 0)=D.t s/\Br (ksE s s1) (uP N (Q n5)) (vl Q N0 a0 e0 c0 s1 (ksW.wrap (n5 - 1)) N)) (uP N (Q
 (-1)))):vl Q N0 a0 e0 c0 s1 n5 N:=
  hE CR h
theorem pz {Q:QT [.ag 2]}{N0 n4 y0 Y aa ab ac J O I U N}(h :
∃ a b,∃ c:Nat,(y0.cell 1)=D.sl a 2 b c/\Br (decide (n4<(b.length:Int))) (∃ a b,∃ c:Nat,(y0.cell 1)=D.sl a 2 b c/\ksL n4 b/\kA 2 42 [.dg 2 (b.getD n4.toNat ksD)] N (λx a=>YU O I U [x]/\zA I [x] 32/\∀(b:Nat),
 xy Q N0 (ksW.wrap (n4+1)) y0 Y aa ab ac J (I++[x]).length b (I++[x]) b a)) (uP N (Q (D.ag [D.j J,D.sl
 O 2 I U])))):tT Q N0 n4 y0 Y aa ab ac J O I U N:=
  hE r6 h
theorem sa {Q:QT [.bool]}{N0 I J O N}(h :
∃ a d,∃ c:Nat,(J.cell 1)=D.sl a 2 d c/\Br (decide (I<(d.length:Int))) (∃ a c,∃ d:Nat,(J.cell 1)=D.sl a 2 c d/\ksL I c/\∃ a d,∃ e:Nat,(O.cell 1)=D.sl a 2 d e/\ksL I d/\kB 26 [.dg 2 (c.getD I.toNat ksD),.dg 2 (d.getD I.toNat ksD)] N (λb a=>Br (!b) (uP a (Q false)) (yy Q N0 (ksW.wrap (I+1)) J O
 a))) (uP N (Q true))):yy Q N0 I J O N:=
  hE qd h
theorem qq {Q:QT [.sl 4]}{N0 O e0 U Y m5 c5 I r0 J N}(h :
Br (decide (I<(e0.length:Int))) (ksL I e0/\kB 110 [.dg 2 (if 2=0 then D.cell (e0.getD I.toNat ksD) 1 else D.sub
 (e0.getD I.toNat ksD) 1 2)] N (λb a=>Br b (ksL I e0/\∃ n:Int,(if 0=0 then D.cell (e0.getD I.toNat ksD)
 3 else D.sub (e0.getD I.toNat ksD) 3 0)=D.j n/\Br (decide (n<=Y)) (ksL I e0/\∃ s,(if 0=0 then D.cell (e0.getD I.toNat ksD) 0 else D.sub (e0.getD I.toNat ksD) 0 0)=D.t s/\kI 168 [.sv O 4 e0 U,.str s] a (λa b=>Br (a==I) (ksL I e0/\∃ a,(if 0=0 then D.cell (e0.getD I.toNat ksD) 0 else D.sub (e0.getD I.toNat ksD) 0 0)=D.t a/\ksL I e0/\ksL I e0/\∃ d:Int,(if 0=0 then D.cell (e0.getD I.toNat ksD) 3 else D.sub (e0.getD I.toNat ksD) 3 0)=D.j d/\kA 2 42 [.dg 2 (if 2=0 then D.cell (e0.getD I.toNat ksD) 1 else D.sub (e0.getD I.toNat ksD) 1 2)] b (λx b
 => (m5=r0.length/\c5=J)/\zA r0 [D.ag [D.t a,(x.cell 0),(x.cell 1),D.j d]] 56/\∀(c:Nat),yU Q N0 O e0 U Y (r0++[D.ag
 [D.t a,(x.cell 0),(x.cell 1),D.j d]]).length c (ksW.wrap (I+1)) (r0++[D.ag [D.t a,(x.cell 0),(x.cell 1),D.j d]]) c b))
 (yU Q N0 O e0 U Y m5 c5 (ksW.wrap (I+1)) r0 J b))) (yU Q N0 O e0 U Y m5 c5 (ksW.wrap (I+1)) r0 J a))
 (yU Q N0 O e0 U Y m5 c5 (ksW.wrap (I+1)) r0 J a))) (w3 (m5=r0.length/\c5=J) (∀ a b,N<=b->Fresh N0 b a [D.ag r0]->uP
 b (Q a r0 J)))):yU Q N0 O e0 U Y m5 c5 I r0 J N:=
  hE BD h
theorem Cz {Q:QT [.ag 2,.bool]}{N0 s0 a1 e1 c1 n6 Y I J O U N}(h :
Br (decide (Y<(e1.length:Int))) (ksL Y e1/\∃ n:Int,(if 0=0 then D.cell (e1.getD Y.toNat ksD) 0 else D.sub
 (e1.getD Y.toNat ksD) 0 0)=D.j n/\Br (bne n n6) (uP N (Q (D.ag [D.j 0,D.sl none 2 [] 0]) false)) (xB Q N0 s0 a1 e1 c1 n6
 (ksW.wrap (Y+1)) I J O U N)) (Br (ksE s0 (bytes [43])) (kA 2 82 [] N (λx a=>uP a (Q x true))) (Br
 (ksE s0 (bytes [45])) (kA 2 82 [] N (λa b=>uP b (Q a true))) (Br (ksE s0 (bytes
 [42])) (kA 2 82 [] N (λa b=>uP b (Q a true))) (kA 2 132 [] N (λa b=>uP b (Q a true))))))):xB Q N0 s0 a1 e1 c1 n6 Y I J O U N:=
  hE F8 h
theorem q9 {Q:QT [.ag 2,.bool]}{N0 a0 e0 c0 n2 ab J I y0 O U Y aa r2 q2 N}(h :
∃ a d,∃ c:Nat,(y0.cell 8)=D.sl a 9 d c/\Br (decide (I<(d.length:Int))) (∃ a c,∃ d:Nat,(y0.cell 8)=D.sl a 9 c d/\ksL I c/\kAB 2 62 [.sv a0 4 e0 c0,.dg 9 (c.getD I.toNat ksD),.j n2] N (λx b a=>Br (!b) (uP a (Q (D.ag [D.j 0,
 D.sl none 2 [] 0]) false)) ((ab=r2.length/\J=q2)/\zA r2 [x] 32/\∀(b:Nat),xk Q N0 a0 e0 c0 n2 (r2++[x]).length b
 (ksW.wrap (I+1)) y0 O U Y aa (r2++[x]) b a))) ((ab=r2.length/\J=q2)/\∀ a,ApA a r2->Off [a] y0->∀ b,N<=b->wm
 b [a]->ACalls prog 171 [.ag 2,.bool] [.dg 9 y0,.sv a 2 r2 J] b (λc d e=>b<=e->Off [a] c/\(Bel e c->uP e (Q c d))))):xk Q N0 a0 e0 c0 n2 ab J I y0 O U Y aa r2 q2 N:=
  hE CS h
theorem si {Q:QT [.ag 2]}{N0 n4 y0 U Y aa ab I J O r3 q3 N}(h :
∃ a b,∃ c:Nat,(y0.cell 1)=D.sl a 2 b c/\Br (decide (n4<(b.length:Int))) (∃ a b,∃ c:Nat,(y0.cell 1)=D.sl a 2 b c/\ksL n4 b/\kA 2 42 [.dg 2 (b.getD n4.toNat ksD)] N (λx a=>(J=r3.length/\O=q3)/\zA r3 [x] 32/\∀(b :
 Nat),xy Q N0 (ksW.wrap (n4+1)) y0 U Y aa ab I (r3++[x]).length b (r3++[x]) b a)) (w3 (J=r3.length/\O =
 q3) (∀ a b,N<=b->Fresh N0 b a [D.ag r3]->uP b (Q (D.ag [D.j I,D.sl a 2 r3 q3]))))):xy Q N0 n4 y0 U Y aa ab I J O r3 q3 N:=
  hE r6 h
end Go.Proofs.YtlaniepnglheoaaGreat
set_option maxRecDepth 100000
namespace Go.Proofs.YtlaniepnglheoaaGreat
open Go Go.Proofs Go.Proofs.Tryz
def tO:Hint:=⟨[hc 2 [0,1,7,8]],[],[]⟩
def Bz:Hint:=⟨[hc 2 [0,6,7]],[],[]⟩
def rD:Hint:=⟨[hc 3 [3,7,8,9]],[],[(5,hs 5 [ec 2 [14]])]⟩
def sJ:Hint:=⟨[hc 3 [3,7,8,9]],[],[(5,hs 5 [ec 2 [14]])]⟩
def Av:Hint:=⟨[],[],[(1,[en 0,en 1,eh 2,en 3,en 4,en 5,en 6,en 7,en 8,en 9,en 10,en 11,en 12,en 13,en 14,en 15])]⟩
def Dc:Hint:=⟨[],[],[(1,hs 5 [ec 2 [4]])]⟩
def vR:Hint:=⟨[hc 2 [0,1,7,8]],[],[(4,hs 6 [ec 5 [15]])]⟩
def F0:Hint:=⟨[],[],[(1,hs 11 [ec 2 [6]])]⟩
def B4:Hint:=⟨[],[],[(1,hs 13 [ec 1 [3],ec 5 [7],ec 10 [12]])]⟩
def Hv:Hint:=⟨[],[],[(1,hs 17 [ec 7 [9]])]⟩
def wb:Hint:=⟨[hc 2 [0,1,7,8]],[],[(4,hs 6 [ec 5 [15]])]⟩
def Hw:Hint:=⟨[],[],[(12,hs 9 [ec 6 [34]]),(14,hs 26 [ec 18 [56],ec 23 [61]])]⟩
def vP:Hint:=⟨[hc 4 [1,2,15,16,17]],[],[(7,hs 5 [ec 3 [27,28]])]⟩
def Js:Hint:=⟨[],[],[(1,[en 0,en 1,en 2,en 3,ec 4 [7],en 5]),(14,[en 0,en 1,en 2,en 3,en 4,eh 5,en 6,eh 7]),(16,[en 0,en 1,en 2,en 3,en 4,en 5,en 6,en 7,en 8,eh 9,en 10,eh 11,en 12,eh 13,en 14,eh 15]),(17,hs 38 [ec 1 [54],ec 28 [79,81],ec 35 [86,88]])]⟩
def Db:Hint:=⟨[],[],[(1,hs 5 [ec 2 [4]])]⟩
def vQ:Hint:=⟨[hc 2 [0,1,7,8]],[],[(4,hs 6 [ec 5 [15]])]⟩
def Fy:Hint:=⟨[],[],[(1,hs 11 [ec 2 [6]])]⟩
def Jp:Hint:=⟨[],[],[(1,hs 3 [ec 1 [3]])]⟩
def B7:Hint:=⟨[hc 4 [1,2,3,15,16,17]],[],[(1,hs 5 [ec 3 [10]]),(6,[en 0,en 1,en 2,en 4,ec 3 [22],ec 5 [21],en 6])]⟩
def Fw:Hint:=⟨[],[],[(1,hs 8 [ec 1 [5],ec 5 [8]])]⟩
def Dd:Hint:=⟨[],[],[(1,[en 0,en 1,en 2,en 3,en 4,en 5,en 6,ec 7 [11],eh 8])]⟩
def pK:Hint:=⟨[hc 2 [0,1,5]],[],[]⟩
def tM:Hint:=⟨[hc 3 [2,3,10,11,12]],[],[(5,[en 0,en 1,en 2,ec 3 [18],en 4,eh 5,en 6,eh 7])]⟩
def B8:Hint:=⟨[hc 11 [4,5,6,22,23,24]],[],[(13,hs 4 [ec 2 [28,29]])]⟩
def Ly:Hint:=⟨[],[],[(1,[en 0,en 2,ec 1 [5],ec 3 [7],en 4,en 5,eh 6])]⟩
def Jt:Hint:=⟨[],[],[(1,hs 5 [ec 1 [3]])]⟩
def Jr:Hint:=⟨[],[],[(3,hs 6 [ec 4 [10]])]⟩
def A9:Hint:=⟨[hc 3 [0,1,5,9,10,11] [(5,51,4)]],[],[(5,hs 17 [ec 2 [17]]),(6,[en 0,en 1,en 2,en 3,en 4,en 6,en 7,ec 5 [37],en 8,en 9,eh 10,eh 11])]⟩
def E5:Hint:=⟨[],[],[(3,hs 10 [ec 7 [17]]),(5,hs 3 [ec 1 [24]]),(7,hs 10 [ec 7 [32],ec 8 [35]]),(9,[en 0,en 1,en 3,en 4,en 5,en 6,en 7,eh 2,ec 8 [45],ec 9 [47],eh 10]),(11,hs 9 [ec 6 [55]]),(12,hs 2 [ec 1 [58]]),(13,hs 3 [ec 1 [60]])]⟩
def pL:Hint:=⟨[hc 15 [4,6,7,9,57,58] [(9,27,2)]],[],[(5,[en 0,en 1,en 2,en 3,en 4,en 5,en 6,en 7,en 8,en 9,en 10]),(6,hs 7 [ec 5 [43]]),(22,hs 9 [ec 3 [79,80],ec 7 [83,84]]),(27,[en 0,en 1,en 2,en 3,en 4,en 5,en 6,en 7,en 8,ec 9 [102,103],en 10]),(28,hs 6 [ec 4 [109]]),(31,[en 0,en 1,en 2,en 3,en 4,en 5,en 6,en 7,en 9,en 10,en 11,en 12,en 13,en 15,eh 8,ec 14 [126],eh 16]),(34,hs 5 [ec 3 [134,135]]),(39,[en 0,en 1,en 2,en 3,en 4,en 5,en 6,en 8,en 9,en 10,en 11,en 12,eh 7,ec 13 [156],eh 14]),(41,hs 7 [ec 4 [162,164]]),(42,[en 0,en 1,en 2,en 3,en 4,en 5,en 6,en 7,en 8,en 9,en 10,en 11,en 12,en 14,en 15,en 16,en 17,en 18,en 20,eh 13,ec 19 [183],eh 21]),(43,hs 4 [ec 3 [186,188]]),(46,hs 5 [ec 3 [193]])]⟩
def Lz:Hint:=⟨[],[],[(1,hs 6 [ec 3 [9]]),(2,hs 3 [ec 1 [12]])]⟩
def Jq:Hint:=⟨[],[],[(1,hs 9 [ec 6 [13]]),(3,hs 6 [ec 3 [20]]),(4,[en 0,en 1,en 2,en 3,eh 4,en 5])]⟩
def yx (Q:QT [.int .i64]) N0 I e0 J O U Y N:=ksT 145 2 Q N0 (.sv I 0 e0 J::.str O::an 5 (.j U::.j Y::an 10 [])) [] N
def xO (Q:QT [.bool]) N0 I J O N:=ksT 93 2 Q N0 (.str I::an 5 (.j J::.j O::an 40 [])) [] N
def xY (Q:QT [.int .i64]) N0 I J O U Y n9 N:=ksT 162 3 Q N0 (an 3 (.j I::an 3 (.sv J 2 O U::.j Y::.j n9::an 9 []))) [] N
def xK (Q:QT [.int .i64]) N0 I J O U Y n9 N:=ksT 163 3 Q N0 (an 3 (.j I::an 3 (.sv J 2 O U::.j Y::.j n9::an 10 []))) [] N
def wP (Q:QT [.int .i64]) N0 I e0 J O U N:=ksT 155 2 Q N0 (.sv I 4 e0 J::.str O::an 3 (.j U::an 15 [])) [] N
def uK (Q:QT [.ag 2]) N0 ae ah ai aj ak I J O U Y aa ab ac N:=ksT 38 3 Q N0 (an 2 (.pb 0 0 0 0::.pb 1 0 0 0::an 6 (.sv ae 2 ah ai::.j aj::.j ak::an 12 []))) [.var [.j I,.sv J 2 O U],.var [.j Y,.sv aa 2 ab ac]] N
def zY (Q:QT [.ag 2]) N0 Y aa ab ac ae I J O U y1 y2 N:=ksT 158 11 Q N0 (an 4 (.pb 0 0 0 0::.pb 1 0 0 0::.pb 2 0 0 0::an 15 (.sv Y 2 aa ab::.j ac::.j ae::an 10 []))) [.var [.j I,.sv J 2 O U],.vd y1 2,.vd y2 2] N
def yT (Q:QT [.sl 4]) N0 O e0 U Y m5 c5 a9 e9 c9 I J r0 q0 N:=ksT 193 3 Q N0 (.sv O 4 e0 U::.j Y::an 3 (.sb 0 4 0 m5 c5::an 3 (.sv a9 4 e9 c9::.j I::.j J::an 34 []))) [.arr 51 4 r0 q0] N
def yw (Q:QT [.ag 2]) N0 m9 c9 ae ah y0 I J O U Y aa ab ac r4 q4 N:=ksT 106 15 Q N0 (an 4 (.pb 0 0 0 0::an 1 (.pb 1 0 0 0::.fn 154 [.pb 2 0 0 0,.pb 0 0 0 0,.pb 3 0 0 0]::an 1 (.sb 4 2 0 m9 c9::an 47 (.j ae::.j ah::an 137 []))))) [.vd y0 9,.var [.j I,.sv J 2 O U],.var [.sv Y 4 aa ab],.var [.j ac],.arr 27 2 r4 q4] N
def ze (Q:QT [.bool]) N0 a1 e1 c1 I J O U Y N:=ksT 190 4 Q N0 (an 1 (.sv a1 2 e1 c1::.fn 159 []::an 12 (.sv I 2 J O::.j U::.j Y::an 14 []))) [] N
def vT (Q:QT [.bool]) N0 n1 I J O U Y y0 N:=ksT 149 4 Q N0 (an 1 (.j n1::.fn 150 []::.pb 0 0 0 0::an 11 (.sv I 9 J O::.j U::.j Y::an 11 []))) [.vd y0 9] N
def xM (Q:QT [.ag 2]) N0 ac ae ah ai aj I J O U Y aa ab r2 q2 N:=ksT 38 3 Q N0 (an 2 (.pb 0 0 0 0::.pb 1 0 0 0::an 6 (.sv ac 2 ae ah::.j ai::.j aj::an 12 []))) [.var [.j I,.sv J 2 O U],.var [.j Y,.sb 2 2 0 aa ab],.arr 27 2 r2 q2] N
def zn (Q:QT [.int .i64]) N0 I e0 J O U N:=ksT 187 2 Q N0 (.sv I 4 e0 J::.fn 148 []::an 5 (.j O::.j U::an 10 [])) [] N
def yM (Q:QT [.int .i64]) N0 J e0 O I U Y N:=ksT 202 2 Q N0 (.sv J 2 e0 O::.fn 195 [.pd I 0 (.fn 165 [])]::an 5 (.j U::.j Y::an 10 [])) [] N
def yL (Q:QT [.int .i64]) N0 J e0 O I U Y N:=ksT 143 2 Q N0 (.sv J 9 e0 O::.fn 91 [.pd I 0 (.fn 146 [])]::an 5 (.j U::.j Y::an 10 [])) [] N
theorem LQ N n0 I J(Q:QT [.bool])(h :
Br (decide (I<=n0)) (uP N (Q (decide (n0<=J)))) (uP N (Q false))):ksC 46 [.j n0,.j I,.j J] N Q:=
 eE H0 h
theorem Bu N I e0 J O(Q:QT [.int .i64])(h :
Bel N (D.sl I 0 e0 J)->yx Q N I e0 J O (e0.length:Int) 0 N):ksC 145 [.sv I 0 e0 J,.str O] N Q:=
 eE tO h
theorem pH N I e0 J O(Q:QT [.bool])(h :
Bel N (D.sl I 0 e0 J)->kI 145 [.sv I 0 e0 J,.str O] N (λn a=>uP a (Q (decide (n≥0))))):ksC 144 [.sv I 0 e0 J,.str O] N Q:=
 eE H0 h
theorem LG N I(Q:QT [.bool])(h :
xO Q N I (I.size:Int) 0 N):ksC 93 [.str I] N Q:=
 eE Bz h
theorem EQ N I(Q:QT [.int .i64])(h :
Bel N I->∃ a b,∃ c:Nat,(I.cell 1)=D.sl a 2 b c/\xY Q N 1 a b c (b.length:Int) 0 N):ksC 162 [.dg 2 I] N Q:=
 eE rD h
theorem DJ N I(Q:QT [.int .i64])(h :
Bel N I->∃ a b,∃ c:Nat,(I.cell 1)=D.sl a 2 b c/\xK Q N 0 a b c (b.length:Int) 0 N):ksC 163 [.dg 2 I] N Q:=
 eE sJ h
theorem A2 N I(Q:QT [.bool])(h :
Bel N I->∃ n:Int,(I.cell 0)=D.j n/\kB 46 [.j n,.j 1,.j 4] N (λb d=>Br b (∃ a b,∃ c:Nat,(I.cell 1)=D.sl a 2 b c/\∃ a:Int,
 (I.cell 0)=D.j a/\(0<=ksW.wrap (a - 1)/\ksW.wrap (a - 1)<4/\(0+(ksW.wrap (a - 1)).toNat:Nat)<4)/\(0 +
 (ksW.wrap (a - 1)).toNat:Nat)<4/\∃ c:Int,List.getD [D.j 0,D.j 0,D.j 2,D.j 1] (0+(ksW.wrap (a - 1)).toNat:Nat) default=D.j
 c/\uP d (Q ((b.length:Int)==c))) (uP d (Q false)))):ksC 165 [.dg 2 I] N Q:=
  eE Av h
theorem DL N I(Q:QT [.bool])(h :
Bel N I->kI 162 [.dg 2 I] N (λn a=>Br (decide (n<=30)) (kI 163 [.dg 2 I] a (λa c=>Br (decide (a<=8)) (kB 164 [.dg 2 I,.fn 165 []]
 c (λb a=>uP a (Q b))) (uP c (Q false)))) (uP a (Q false)))):ksC 107 [.dg 2 I] N Q:=
  eE B4 h
theorem IP N I(Q:QT [.bool])(h :
Bel N I->∃ s,(I.cell 0)=D.t s/\kB 93 [.str s] N (λb a=>Br (!b) (uP a (Q true)) (kB 107 [.dg 2 (D.sub I 1 2)] a (λa b=>Br (!a) (uP
 b (Q true)) (∃ n:Int,(I.cell 3)=D.j n/\kB 46 [.j n,.j 0,.j 2] b (λa b=>uP b (Q (!a)))))))):ksC 148 [.dg 4 I] N Q:=
  eE Hv h
theorem NY N I e0 J(Q:QT [.bool])(h :
Bel N (D.sl I 4 e0 J)->Br (decide ((e0.length:Int)<=12)) (kB 147 [.sv I 4 e0 J,.fn 148 []] N (λb a=>uP a (Q (!b)))) (uP N (Q false))):ksC 99 [.sv I 4 e0 J] N Q:=
 eE H0 h
theorem IQ N I(Q:QT [.int .i64])(h :
Br (ksE I (bytes [43])) (uP N (Q 2)) (Br (ksE I (bytes [45])) (uP N (Q 2)) (Br
 (ksE I (bytes [42])) (uP N (Q 2)) (Br (ksE I (bytes [61])) (uP N (Q 2)) (Br
 (ksE I (bytes [60])) (uP N (Q 2)) (Br (ksE I (bytes [38])) (uP N (Q 2)) (Br
 (ksE I (bytes [124])) (uP N (Q 2)) (Br (ksE I (bytes [33])) (uP N (Q 1)) (uP N (Q
 0)))))))))):ksC 201 [.str I] N Q:=
  eE H0 h
theorem NZ N I(Q:QT [.int .i64])(h :
Bel N I->∃ n:Int,(I.cell 0)=D.j n/\Br (n==4) (∃ s,(I.cell 1)=D.t s/\kI 201 [.str s] N (λa b=>uP b (Q a))) (Br (n==5) (uP N (Q
 3)) (Br (n==7) (uP N (Q 2)) (Br (n==8) (uP N (Q 2)) (Br (n==6) (uP N (Q 1)) (Br (n==9) (uP N (Q 1)) (Br (n==10) (uP N (Q 1)) (Br (n==11) (uP N (Q
 1)) (Br (n==12) (uP N (Q 1)) (Br (n==13) (uP N (Q 1)) (uP N (Q 0)))))))))))):ksC 185 [.dg 9 I] N Q:=
  eE H0 h
theorem Hg N n0(Q:QT [.bool])(h :
kB 46 [.j n0,.j 0,.j 10006] N (λb a=>uP a (Q b))):ksC 101 [.j n0] N Q:=
 eE H0 h
theorem IT N I(Q:QT [.bool])(h :
Bel N I->∃ n:Int,(I.cell 0)=D.j n/\Br (n==1) (∃ s,(I.cell 1)=D.t s/\kB 93 [.str s] N (λb a=>uP a (Q b))) (Br (n==8) (∃ a,
 (I.cell 1)=D.t a/\kB 93 [.str a] N (λa b=>uP b (Q a))) (Br (n==2) (∃ a:Int,(I.cell 3)=D.j a/\kB 101 [.j a] N (λa b=>uP
 b (Q a))) (Br (n==3) (∃ a:Int,(I.cell 3)=D.j a/\kB 46 [.j a,.j 0,.j 1] N (λa b=>uP b (Q a))) (Br (n==4) (∃ a,(I.cell 1) =
 D.t a/\kI 201 [.str a] N (λa b=>uP b (Q (decide (a>0))))) (Br (n==6) (∃ a,(I.cell 1)=D.t a/\kB 93 [.str a] N (λa b=>Br
 a (kB 107 [.dg 2 (D.sub I 4 2)] b (λa b=>uP b (Q a))) (uP b (Q false)))) (Br (n==9) (∃ a,(I.cell 1)=D.t a/\kB 93 [.str a] N
 (λa b=>Br a (∃ a,(I.cell 2)=D.t a/\kB 93 [.str a] b (λa b=>Br a (∃ a,(I.cell 1)=D.t a/\∃ c,(I.cell 2)=D.t c
 /\ Br (!(ksE a c)) (kB 107 [.dg 2 (D.sub I 4 2)] b (λa b=>Br a (kB 107 [.dg 2 (D.sub I 6 2)] b (λa b
 => uP b (Q a))) (uP b (Q false)))) (uP b (Q false))) (uP b (Q false)))) (uP b (Q false)))) (∃ a:Int,(I.cell 0)=D.j a/\kB 46 [.j a,.j
 1,.j 13] N (λa b=>uP b (Q a)))))))))):ksC 186 [.dg 9 I] N Q:=
  eE Hw h
theorem FR N I J(Q:QT [.bool])(h :
Bel N I->Bel N J->∃ n:Int,(I.cell 0)=D.j n/\∃ d:Int,(J.cell 0)=D.j d/\Br (n==d) (∃ a d,∃ c:Nat,(I.cell 1)=D.sl a 2 d c /\
 ∃ e f,∃ g:Nat,(J.cell 1)=D.sl e 2 f g/\kB 190 [.sv a 2 d c,.sv e 2 f g,.fn 159 []] N (λb a=>uP a (Q b))) (uP N (Q
 false))):ksC 159 [.dg 2 I,.dg 2 J] N Q:=
  eE H0 h
theorem LM N I(Q:QT [.bool])(h :
Bel N I->∃ a d,∃ c:Nat,(I.cell 8)=D.sl a 9 d c/\kI 185 [.dg 9 I] N (λn a=>Br (bne (d.length:Int) n) (uP a (Q false)) (∃ c:Int,
 (I.cell 0)=D.j c/\∃ c:Int,(I.cell 0)=D.j c/\Br (c==1) (∃ s,(I.cell 1)=D.t s/\kB 186 [.dg 9 I] a (λb a=>Br b (∃ b,(I.cell
 1)=D.t b/\Br (ksE b s) (∃ b,(I.cell 2)=D.t b/\Br (ksE b b0) (∃ b:Int,
 (I.cell 3)=D.j b/\Br (b==0) (kB 159 [.dg 2 (D.sub I 4 2),.dg 2 (D.ag [D.j 0,D.sl none 2 [] 0])] a (λa b=>Br a (kB 159 [.dg 2 (D.sub I 6
 2),.dg 2 (D.ag [D.j 0,D.sl none 2 [] 0])] b (λa b=>uP b (Q a))) (uP b (Q false)))) (uP a (Q false))) (uP a (Q false))) (uP a (Q false))) (uP
 a (Q false)))) (Br (c==8) (∃ b,(I.cell 1)=D.t b/\kB 186 [.dg 9 I] a (λa c=>Br a (∃ a,(I.cell 1)=D.t a/\Br (ksE a b) (∃ a,(I.cell 2)=D.t a/\Br (ksE a b0) (∃ a:Int,(I.cell 3)=D.j a/\Br (a ==
 0) (kB 159 [.dg 2 (D.sub I 4 2),.dg 2 (D.ag [D.j 0,D.sl none 2 [] 0])] c (λa b=>Br a (kB 159 [.dg 2 (D.sub I 6 2),.dg 2 (D.ag [D.j 0,D.sl
 none 2 [] 0])] b (λa b=>uP b (Q a))) (uP b (Q false)))) (uP c (Q false))) (uP c (Q false))) (uP c (Q false))) (uP c (Q false)))) (Br
 (c==2) (∃ b:Int,(I.cell 3)=D.j b/\kB 186 [.dg 9 I] a (λa c=>Br a (∃ a,(I.cell 1)=D.t a/\Br (ksE a b0) (∃ a,(I.cell 2)=D.t a/\Br (ksE a b0) (∃ a:Int,(I.cell 3)=D.j a/\Br (a==b) (kB
 159 [.dg 2 (D.sub I 4 2),.dg 2 (D.ag [D.j 0,D.sl none 2 [] 0])] c (λa b=>Br a (kB 159 [.dg 2 (D.sub I 6 2),.dg 2 (D.ag [D.j 0,D.sl none 2 []
 0])] b (λa b=>uP b (Q a))) (uP b (Q false)))) (uP c (Q false))) (uP c (Q false))) (uP c (Q false))) (uP c (Q false)))) (Br (c==3)
 (∃ b:Int,(I.cell 3)=D.j b/\kB 186 [.dg 9 I] a (λa c=>Br a (∃ a,(I.cell 1)=D.t a/\Br (ksE a b0) (∃ a,(I.cell 2)=D.t a/\Br (ksE a b0) (∃ a:Int,(I.cell 3)=D.j a/\Br (a==b) (kB 159 [.dg 2 (D.sub
 I 4 2),.dg 2 (D.ag [D.j 0,D.sl none 2 [] 0])] c (λa b=>Br a (kB 159 [.dg 2 (D.sub I 6 2),.dg 2 (D.ag [D.j 0,D.sl none 2 [] 0])] b (fun
 a b=>uP b (Q a))) (uP b (Q false)))) (uP c (Q false))) (uP c (Q false))) (uP c (Q false))) (uP c (Q false)))) (Br (c==4) (∃ b,
 (I.cell 1)=D.t b/\kB 186 [.dg 9 I] a (λa c=>Br a (∃ a,(I.cell 1)=D.t a/\Br (ksE a b) (∃
 a,(I.cell 2)=D.t a/\Br (ksE a b0) (∃ a:Int,(I.cell 3)=D.j a/\Br (a==0) (kB 159 [.dg 2 (D.sub I 4
 2),.dg 2 (D.ag [D.j 0,D.sl none 2 [] 0])] c (λa b=>Br a (kB 159 [.dg 2 (D.sub I 6 2),.dg 2 (D.ag [D.j 0,D.sl none 2 [] 0])] b (λa
 b=>uP b (Q a))) (uP b (Q false)))) (uP c (Q false))) (uP c (Q false))) (uP c (Q false))) (uP c (Q false)))) (Br (c==6) (∃ b,(I.cell
 1)=D.t b/\kB 186 [.dg 9 I] a (λa c=>Br a (∃ a,(I.cell 1)=D.t a/\Br (ksE a b) (∃ a,
 (I.cell 2)=D.t a/\Br (ksE a b0) (∃ a:Int,(I.cell 3)=D.j a/\Br (a==0) (kB 159 [.dg 2 (D.sub I 4 2),
 .dg 2 (D.ag [D.cell (D.sub I 4 2) 0,D.cell (D.sub I 4 2) 1])] c (λa b=>Br a (kB 159 [.dg 2 (D.sub I 6 2),.dg 2 (D.ag [D.j 0,D.sl none 2 []
 0])] b (λa b=>uP b (Q a))) (uP b (Q false)))) (uP c (Q false))) (uP c (Q false))) (uP c (Q false))) (uP c (Q false)))) (Br (c==9)
 (∃ b,(I.cell 1)=D.t b/\∃ c,(I.cell 2)=D.t c/\kB 186 [.dg 9 I] a (λa d=>Br a (∃ a,(I.cell 1)=D.t a/\Br
 (ksE a b) (∃ a,(I.cell 2)=D.t a/\Br (ksE a c) (∃ a:Int,(I.cell
 3)=D.j a/\Br (a==0) (kB 159 [.dg 2 (D.sub I 4 2),.dg 2 (D.ag [D.cell (D.sub I 4 2) 0,D.cell (D.sub I 4 2) 1])] d (λa b=>Br a (kB
 159 [.dg 2 (D.sub I 6 2),.dg 2 (D.ag [D.cell (D.sub I 6 2) 0,D.cell (D.sub I 6 2) 1])] b (λa b=>uP b (Q a))) (uP b (Q false)))) (uP d
 (Q false))) (uP d (Q false))) (uP d (Q false))) (uP d (Q false)))) (kB 186 [.dg 9 I] a (λa b=>Br a (∃ a,(I.cell 1)=D.t a/\Br
 (ksE a b0) (∃ a,(I.cell 2)=D.t a/\Br (ksE a b0) (∃ a:Int,(I.cell 3) =
 D.j a/\Br (a==0) (kB 159 [.dg 2 (D.sub I 4 2),.dg 2 (D.ag [D.j 0,D.sl none 2 [] 0])] b (λa b=>Br a (kB 159 [.dg 2 (D.sub I 6 2),.dg
 2 (D.ag [D.j 0,D.sl none 2 [] 0])] b (λa b=>uP b (Q a))) (uP b (Q false)))) (uP b (Q false))) (uP b (Q false))) (uP b (Q false))) (uP
 b (Q false))))))))))))):ksC 146 [.dg 9 I] N Q:=
  eE Js h
theorem LH N I(Q:QT [.bool])(h :
Bel N I->kB 44 [.dg 9 I,.fn 146 []] N (λb a=>uP a (Q b))):ksC 96 [.dg 9 I] N Q:=
 eE Jp h
theorem EP N I J(Q:QT [.bool])(h :
Bel N I->kB 46 [.j J,.j 0,.j 2] N (λb a=>uP a (Q b))):ksC 150 [.dg 9 I,.j J] N Q:=
 eE H0 h
theorem FU N x0 n1(Q:QT [.int .i64])(h :
Bel N x0->∃ n:Int,(x0.cell 0)=D.j n/\Br (n==10) (uP N (Q (ksW.wrap (n1+1)))) (Br (n==11) (uP N (Q (ksW.wrap (n1 - 1)))) (uP N
 (Q n1)))):ksC 188 [.dg 9 x0,.j n1] N Q:=
  eE H0 h
theorem Hb N I J(Q:QT [.bool])(h :
Bel N I->kB 96 [.dg 9 I] N (λb a=>Br b (kB 149 [.dg 9 I,.j J,.fn 150 []] a (λa b=>uP b (Q a))) (uP a (Q false)))):ksC 100 [.dg 9 I,.j J] N Q:=
 eE Fw h
theorem Hf N I e0 J O(Q:QT [.int .i64])(h :
Bel N (D.sl I 4 e0 J)->wP Q N I e0 J O (ksW.wrap ((e0.length:Int) - 1)) N):ksC 155 [.sv I 4 e0 J,.str O] N Q:=
 eE pK h
theorem He N I(Q:QT [.ag 2])(h :
Bel N I->∃ n:Int,(I.cell 0)=D.j n/\∃ a b,∃ c:Nat,(I.cell 1)=D.sl a 2 b c/\uK Q N a b c (b.length:Int) 0 0 none [] 0 n
 none [] 0 N):ksC 38 [.dg 2 I] N Q:=
  eE tM h
theorem Nh N(Q:QT [.ag 2])(h :
uP N (Q (D.ag [D.j 1,D.sl none 2 [] 0]))):ksC 156 [] N Q:=
 eE H0 h
theorem LO N(Q:QT [.ag 2])(h :
uP N (Q (D.ag [D.j 2,D.sl none 2 [] 0]))):ksC 157 [] N Q:=
 eE H0 h
theorem LN N I a1 e1 c1(Q:QT [.ag 2])(h :
Bel N (D.sl a1 2 e1 c1)->kA 2 156 [] N (λx a=>kA 2 156 [] a (λa b=>Br (ksE I (bytes [61])) (kA 2 157 []
 b (λa b=>zY Q N a1 e1 c1 (e1.length:Int) 0 0 none [] 0 x a b)) (Br (ksE I (bytes [60])) (kA 2 157
 [] b (λa b=>zY Q N a1 e1 c1 (e1.length:Int) 0 0 none [] 0 x a b)) (Br (ksE I (bytes [38])) (kA 2
 157 [] b (λa b=>kA 2 157 [] b (λb c=>zY Q N a1 e1 c1 (e1.length:Int) 0 0 none [] 0 a b c))) (Br (ksE I (bytes [124])) (kA 2 157 [] b (λa b=>kA 2 157 [] b (λb c=>zY Q N a1 e1 c1 (e1.length:Int) 0 0 none [] 0
 a b c))) (Br (ksE I (bytes [33])) (kA 2 157 [] b (λa b=>kA 2 157 [] b (λb c=>zY Q N
 a1 e1 c1 (e1.length:Int) 0 0 none [] 0 a b c))) (zY Q N a1 e1 c1 (e1.length:Int) 0 0 none [] 0 x a b)))))))):ksC 158 [.str I,.sv a1 2 e1 c1] N Q:=
  eE B8 h
theorem AW N I e0 J(Q:QT [.row 51 4])(h :
Bel N (D.sl I 4 e0 J)->Br (Option.isNone I) (uP N (Q [] 0)) ((0=0/\0=0)/\zA [] e0 56/\∀(c:Nat),(([]++e0).length=([]++e0).length /\
 c=c)/\uP N (Q ([]++e0) c))):ksC 166 [.sv I 4 e0 J] N Q:=
  eE H0 h
theorem PG N I e0 J a1 e1 c1(Q:QT [.sl 4])(h :
Bel N (D.sl I 4 e0 J)->Bel N (D.sl a1 4 e1 c1)->∀ b,N<=b->ACalls prog 166 [.row 51 4] [.sv I 4 e0 J] b (λc d e=>b<=e->Bel e (D.ag
 c)->(c.length=c.length/\d=d)/\zA c e1 56/\∀(b:Nat),w2 ((c++e1).length=(c++e1).length/\b=b) (∀ a d,e<=d->Fresh N d a
 [D.ag (c++e1)]->uP d (Q a (c++e1) b)))):ksC 108 [.sv I 4 e0 J,.sv a1 4 e1 c1] N Q:=
  eE H0 h
theorem Ng N I J(Q:QT [.ag 2])(h :
Bel N I->Bel N J->kA 2 38 [.dg 2 I] N (λx b=>kA 2 38 [.dg 2 J] b (λb c=>w3 (2=([x,b]).length/\2=2) (∀ a d,c<=d->Fresh N
 d a [D.ag [x,b]]->uP d (Q (D.ag [D.j 3,D.sl a 2 [x,b] 2])))))):ksC 160 [.dg 2 I,.dg 2 J] N Q:=
  eE Ly h
theorem LP N I(Q:QT [.ag 2])(h :
Bel N I->kA 2 38 [.dg 2 I] N (λx b=>w3 (1=([x]).length/\1=1) (∀ a c,b<=c->Fresh N c a [D.ag [x]]->uP c (Q (D.ag [D.j 4,D.sl a 2 [x]
 1]))))):ksC 191 [.dg 2 I] N Q:=
  eE Jt h
theorem LL N I(Q:QT [.ag 2])(h :
Bel N I->∃ n:Int,(I.cell 0)=D.j n/\Br (bne n 4) (uP N (Q (D.ag [D.j 0,D.sl none 2 [] 0]))) (∃ a b,∃ c:Nat,(I.cell 1)=D.sl a 2 b c/\ksL 0 b/\kA 2 38 [.dg 2 (b.getD 0 ksD)] N (λx a=>uP a (Q x)))):ksC 192 [.dg 2 I] N Q:=
 eE Jr h
theorem LF N x0(Q:QT [.bool])(h :
Bel N x0->∃ n:Int,(x0.cell 0)=D.j n/\kB 46 [.j n,.j 1,.j 2] N (fun b d=>Br b (∃ a b,∃ c:Nat,(x0.cell 1)=D.sl a 2 b c/\uP d (Q
 ((b.length:Int)==0))) (uP d (Q false)))):ksC 94 [.dg 2 x0] N Q:=
  eE H0 h
theorem IR N I e0 J O(Q:QT [.sl 4])(h :
Bel N (D.sl I 4 e0 J)->yT Q N I e0 J O 0 0 I e0 J (e0.length:Int) 0 [] 0 N):ksC 193 [.sv I 4 e0 J,.j O] N Q:=
 eE A9 h
theorem FV N J e0 O I U(Q:QT [.ag 2])(h :
Bel N (D.sl J 4 e0 O)->Bel N I->∃ n:Int,(I.cell 0)=D.j n/\Br (n==10) (∃ a b,∃ c:Nat,(I.cell 8)=D.sl a 9 b c/\ksL 0 b/\kA 2 55 [.sv J 4 e0 O,.dg 9 (b.getD 0 ksD),.j (ksW.wrap (U+1))] N (λx a=>∃ b:Int,(x.cell 0)=D.j
 b/\Br (bne b 0) (kA 2 191 [.dg 2 x] a (λa b=>uP b (Q a))) (uP a (Q (D.ag [D.j 0,D.sl none 2 [] 0]))))) (Br (n==11) (∃ a b,∃ c :
 Nat,(I.cell 8)=D.sl a 9 b c/\ksL 0 b/\kA 2 55 [.sv J 4 e0 O,.dg 9 (b.getD 0 ksD),.j
 (ksW.wrap (U - 1))] N (λa b=>kA 2 192 [.dg 2 a] b (λa b=>uP b (Q a)))) (Br (n==12) (∃ a b,∃ c:Nat,(I.cell 8) =
 D.sl a 9 b c/\ksL 0 b/\kL 4 193 [.sv J 4 e0 O,.j U] N (λa c d e=>kA 2 55 [.sv a 4 c
 d,.dg 9 (b.getD 0 ksD),.j U] e (λa b=>kA 2 192 [.dg 2 a] b (λa b=>uP b (Q a))))) (Br (n==13) (∃ a c,∃ d :
 Nat,(I.cell 8)=D.sl a 9 c d/\ksL 0 c/\kA 2 55 [.sv J 4 e0 O,.dg 9 (c.getD 0 ksD),.j U] N
 (λa c=>kB 94 [.dg 2 a] c (λb c=>Br b (kA 2 191 [.dg 2 a] c (λa b=>uP b (Q a))) (uP c (Q (D.ag [D.j 0,D.sl none 2 []
 0])))))) (uP N (Q (D.ag [D.j 0,D.sl none 2 [] 0]))))))):ksC 161 [.sv J 4 e0 O,.dg 9 I,.j U] N Q:=
  eE E5 h
theorem zf N a0 e0 c0 x1 n2(Q:QT [.ag 2])(h :
Bel N (D.sl a0 4 e0 c0)->Bel N x1->∃ n:Int,(x1.cell 0)=D.j n/\Br (n==1) (∃ s,(x1.cell 1)=D.t s/\kI 155 [.sv a0 4 e0 c0,.str s] N (fun a b
 => Br (decide (a≥0)) (ksL a e0/\∃ c:Int,(if 0=0 then D.cell (e0.getD a.toNat ksD) 3 else D.sub (e0.getD a.toNat ksD) 3 0)=D.j c/\Br (c==n2) (ksL a e0/\kA 2 38 [.dg 2 (if 2=0 then D.cell (e0.getD a.toNat ksD)
 1 else D.sub (e0.getD a.toNat ksD) 1 2)] b (fun x a=>uP a (Q x))) (uP b (Q (D.ag [D.j 0,D.sl none 2 [] 0])))) (uP b (Q (D.ag [D.j 0,D.sl
 none 2 [] 0]))))) (Br (n==2) (kA 2 156 [] N (fun a b=>uP b (Q a))) (Br (n==3) (kA 2 157 [] N (fun a b=>uP b (Q a))) (Br (n==4) (∃ a b,
 ∃ c:Nat,(x1.cell 8)=D.sl a 9 b c/\yw Q N 0 0 (b.length:Int) 0 x1 0 none [] 0 a0 e0 c0 n2 [] 0 N) (Br (n==5) (∀ a,ApA (Option.some
 a) [D.sl a0 4 e0 c0]->∀ c,ApA (Option.some c) [x1]->∀ d,ApA (Option.some d) [D.j n2]->∀ e,N<=e->wm e [Option.some a,Option.some
 c,Option.some d]->ACalls prog 154 [.ag 2] [.j 1,.pd a 0 (D.sl a0 4 e0 c0),.pd c 9 x1,.pd d 0 (D.j n2)] e (fun f g=>e<=g->Off
 [Option.some a,Option.some c,Option.some d] f/\(Bel g f->∀ a,ApA (Option.some a) [D.sl a0 4 e0 c0]->∀ c,ApA (Option.some c) [x1]
 -> ∀ d,ApA (Option.some d) [D.j n2]->∀ e,g<=e->wm e [Option.some a,Option.some c,Option.some d]->ACalls prog 154 [.ag 2] [.j 2,
 .pd a 0 (D.sl a0 4 e0 c0),.pd c 9 x1,.pd d 0 (D.j n2)] e (fun g h=>e<=h->Off [Option.some a,Option.some c,Option.some d] g
 /\ (Bel h g->∀ a,ApA (Option.some a) [D.sl a0 4 e0 c0]->∀ c,ApA (Option.some c) [x1]->∀ d,ApA (Option.some d) [D.j n2]->∀ e,h <=
 e->wm e [Option.some a,Option.some c,Option.some d]->ACalls prog 154 [.ag 2] [.j 0,.pd a 0 (D.sl a0 4 e0 c0),.pd c 9 x1,.pd d 0
 (D.j n2)] e (fun h i=>e<=i->Off [Option.some a,Option.some c,Option.some d] h/\(Bel i h->kA 2 157 [] i (fun a c=>kB 159
 [.dg 2 h,.dg 2 a] c (fun b a=>Br b (kB 159 [.dg 2 f,.dg 2 g] a (fun a b=>Br a (uP b (Q f)) (uP b (Q (D.ag [D.j 0,D.sl none 2 []
 0]))))) (uP a (Q (D.ag [D.j 0,D.sl none 2 [] 0])))))))))))) (Br (n==7) (∀ a,ApA (Option.some a) [D.sl a0 4 e0 c0]->∀ b,ApA (Option.some b)
 [x1]->∀ c,ApA (Option.some c) [D.j n2]->∀ d,N<=d->wm d [Option.some a,Option.some b,Option.some c]->ACalls prog 154 [.ag 2]
 [.j 0,.pd a 0 (D.sl a0 4 e0 c0),.pd b 9 x1,.pd c 0 (D.j n2)] d (fun e f=>d<=f->Off [Option.some a,Option.some b,Option.some
 c] e/\(Bel f e->∀ a,ApA (Option.some a) [D.sl a0 4 e0 c0]->∀ b,ApA (Option.some b) [x1]->∀ c,ApA (Option.some c) [D.j
 n2]->∀ d,f<=d->wm d [Option.some a,Option.some b,Option.some c]->ACalls prog 154 [.ag 2] [.j 1,.pd a 0 (D.sl a0 4 e0 c0),.pd
 b 9 x1,.pd c 0 (D.j n2)] d (fun f g=>d<=g->Off [Option.some a,Option.some b,Option.some c] f/\(Bel g f->∃ a :
 Int,(e.cell 0)=D.j a/\Br (a==3) (∃ a b,∃ c:Nat,(e.cell 1)=D.sl a 2 b c/\ksL 0 b /\
 kB 159 [.dg 2 (b.getD 0 ksD),.dg 2 f] g (fun a b=>Br a (∃ a c,∃ d:Nat,(e.cell 1)=D.sl a 2 c d/\ksL 1 c/\kA 2 38 [.dg 2 (c.getD 1 ksD)] b (fun a b=>uP b (Q a))) (uP b (Q (D.ag [D.j 0,D.sl none 2 []
 0]))))) (uP g (Q (D.ag [D.j 0,D.sl none 2 [] 0])))))))) (Br (n==6) (∃ a,(x1.cell 1)=D.t a/\∃ b c,∃ d:Nat,(x1.cell 8)=D.sl b 9 c
 d/\ksL 0 c/\(1=([D.ag [D.t a,D.cell (D.sub x1 4 2) 0,D.cell (D.sub x1 4 2) 1,D.j n2]]).length/\1=1)/\∀
 b,ApA b [D.ag [D.t a,D.cell (D.sub x1 4 2) 0,D.cell (D.sub x1 4 2) 1,D.j n2]]->Off [b] (D.sl a0 4 e0 c0)->∀ d,N<=d->wm d [b]->ACalls
 prog 108 [.sl 4] [.sv a0 4 e0 c0,.sv b 4 [D.ag [D.t a,D.cell (D.sub x1 4 2) 0,D.cell (D.sub x1 4 2) 1,D.j n2]] 1] d (fun a e f g=>d<=g
 -> Off [b] (D.sl a 4 e f)/\(Bel g (D.sl a 4 e f)->kA 2 55 [.sv a 4 e f,.dg 9 (c.getD 0 ksD),.j n2] g (fun a b=>
 ∃ c:Int,(a.cell 0)=D.j c/\Br (c==0) (uP b (Q (D.ag [D.j 0,D.sl none 2 [] 0]))) (kA 2 160 [.dg 2 (D.sub x1 4 2),.dg 2 a] b (fun a
 b=>uP b (Q a))))))) (Br (n==8) (∀ a,ApA (Option.some a) [D.sl a0 4 e0 c0]->∀ b,ApA (Option.some b) [x1]->∀ c,ApA
 (Option.some c) [D.j n2]->∀ d,N<=d->wm d [Option.some a,Option.some b,Option.some c]->ACalls prog 154 [.ag 2] [.j 0,.pd a 0
 (D.sl a0 4 e0 c0),.pd b 9 x1,.pd c 0 (D.j n2)] d (fun e f=>d<=f->Off [Option.some a,Option.some b,Option.some c] e /\
 (Bel f e->∃ a:Int,(e.cell 0)=D.j a/\Br (a==0) (uP f (Q (D.ag [D.j 0,D.sl none 2 [] 0]))) (∃ a,(x1.cell 1)=D.t a/\∃ b c,∃
 d:Nat,(x1.cell 8)=D.sl b 9 c d/\ksL 1 c/\(1=([D.ag [D.t a,(e.cell 0),(e.cell 1),D.j
 n2]]).length/\1=1)/\∀ b,ApA b [D.ag [D.t a,(e.cell 0),(e.cell 1),D.j n2]]->Off [b] (D.sl a0 4 e0 c0)->∀ d,f<=d->wm d [b]
 -> ACalls prog 108 [.sl 4] [.sv a0 4 e0 c0,.sv b 4 [D.ag [D.t a,(e.cell 0),(e.cell 1),D.j n2]] 1] d (fun a e f g=>d<=g->Off
 [b] (D.sl a 4 e f)/\(Bel g (D.sl a 4 e f)->kA 2 55 [.sv a 4 e f,.dg 9 (c.getD 1 ksD),.j n2] g (fun a b=>uP b
 (Q a)))))))) (Br (n==9) (kA 2 160 [.dg 2 (D.sub x1 4 2),.dg 2 (D.sub x1 6 2)] N (fun a b=>∃ c,(x1.cell 1)=D.t c/\∃ d,(x1.cell 2)=D.t
 d/\∃ e f,∃ g:Nat,(x1.cell 8)=D.sl e 9 f g/\ksL 0 f/\(2=([D.ag [D.t c,(a.cell 0),
 (a.cell 1),D.j n2],D.ag [D.t d,D.cell (D.sub x1 4 2) 0,D.cell (D.sub x1 4 2) 1,D.j n2]]).length/\2=2)/\∀ e,ApA e [D.ag [D.t c,(a.cell
 0),(a.cell 1),D.j n2],D.ag [D.t d,D.cell (D.sub x1 4 2) 0,D.cell (D.sub x1 4 2) 1,D.j n2]]->Off [e] (D.sl a0 4 e0 c0)->∀ g,b<=g->wm
 g [e]->ACalls prog 108 [.sl 4] [.sv a0 4 e0 c0,.sv e 4 [D.ag [D.t c,(a.cell 0),(a.cell 1),D.j n2],D.ag [D.t d,D.cell (D.sub x1 4 2) 0,
 D.cell (D.sub x1 4 2) 1,D.j n2]] 2] g (fun b c d h=>g<=h->Off [e] (D.sl b 4 c d)/\(Bel h (D.sl b 4 c d)->kA 2 55
 [.sv b 4 c d,.dg 9 (f.getD 0 ksD),.j n2] h (fun b c=>kB 159 [.dg 2 b,.dg 2 (D.sub x1 6 2)] c (fun b c=>Br b (uP c
 (Q a)) (uP c (Q (D.ag [D.j 0,D.sl none 2 [] 0]))))))))) (kA 2 161 [.sv a0 4 e0 c0,.dg 9 x1,.j n2] N (fun a b=>uP b (Q a)))))))))))):ksC 106 [.sv a0 4 e0 c0,.dg 9 x1,.j n2] N Q:=
  eE pL h
theorem Ni N I e0 J O U(Q:QT [.ag 2])(h :
Bel N (D.sl I 4 e0 J)->Bel N O->kA 2 106 [.sv I 4 e0 J,.dg 9 O,.j U] N (λx a=>kB 107 [.dg 2 x] a (λb a=>Br (!b) (uP a (Q (D.ag
 [D.j 0,D.sl none 2 [] 0]))) (uP a (Q x))))):ksC 55 [.sv I 4 e0 J,.dg 9 O,.j U] N Q:=
  eE Lz h
theorem LK N I e0 J O U(Q:QT [.ag 2,.bool])(h :
Bel N (D.sl I 4 e0 J)->Bel N O->kB 99 [.sv I 4 e0 J] N (λb a=>Br (!b) (uP a (Q (D.ag [D.j 0,D.sl none 2 [] 0]) false)) (kB 100 [.dg 9 O,.j
 U] a (λa b=>Br (!a) (uP b (Q (D.ag [D.j 0,D.sl none 2 [] 0]) false)) (kA 2 55 [.sv I 4 e0 J,.dg 9 O,.j U] b (λx a=>∃ n:Int,(x.cell
 0)=D.j n/\uP a (Q x (bne n 0)))))))):ksC 49 [.sv I 4 e0 J,.dg 9 O,.j U] N Q:=
  eE Jq h
theorem ub {Q:QT [.int .i64]}{N0 U e0 Y J O I N}(h :
Br (decide (I<O)) (ksL I e0/\∃ s,e0.getD I.toNat ksD=D.t s/\Br (ksE J s) (uP
 N (Q I)) (yx Q N0 U e0 Y J O (ksW.wrap (I+1)) N)) (uP N (Q (-1)))):yx Q N0 U e0 Y J O I N:=
  hE tO h
theorem pa {Q:QT [.bool]}{N0 J O I N}(h :
Br (decide (I<O)) ((0<=I/\I<(J.size:Int))/\Br (decide ((UInt8.toNat (Array.getD (ByteArray.data J) I.toNat (OfNat.ofNat 0)):Int)≥97))
 ((0<=I/\I<(J.size:Int))/\Br (!(decide ((UInt8.toNat (Array.getD (ByteArray.data J) I.toNat (OfNat.ofNat 0)):Int)<=122))) (Br (I==0) (uP N (Q
 false)) ((0<=I/\I<(J.size:Int))/\Br (decide ((UInt8.toNat (Array.getD (ByteArray.data J) I.toNat (OfNat.ofNat 0)):Int)<48)) (uP N (Q false)) ((0
 <= I/\I<(J.size:Int))/\Br (decide ((UInt8.toNat (Array.getD (ByteArray.data J) I.toNat (OfNat.ofNat 0)):Int)>57)) (uP N (Q false))
 (xO Q N0 J O (ksW.wrap (I+1)) N)))) (xO Q N0 J O (ksW.wrap (I+1)) N)) (Br (I==0) (uP N (Q false)) ((0 <=
 I/\I<(J.size:Int))/\Br (decide ((UInt8.toNat (Array.getD (ByteArray.data J) I.toNat (OfNat.ofNat 0)):Int)<48)) (uP N (Q false)) ((0<=I/\I <
 (J.size:Int))/\Br (decide ((UInt8.toNat (Array.getD (ByteArray.data J) I.toNat (OfNat.ofNat 0)):Int)>57)) (uP N (Q false)) (xO Q N0 J O
 (ksW.wrap (I+1)) N))))) (kB 46 [.j (J.size:Int),.j 1,.j 4] N (λb c=>Br b ((5=5/\5=5)/\∀ a,ApA a [D.t (bytes [105,102]),D.t (bytes
 [108,101,116]),D.t (bytes [108,105,102,116]),D.t (bytes [114,101,99]),D.t (bytes [114,117,110])]->∀ b,c<=b->wm b [a]->ACalls prog 144
 [.bool] [.sv a 0 [D.t (bytes [105,102]),D.t (bytes [108,101,116]),D.t (bytes [108,105,102,116]),D.t (bytes [114,101,99]),D.t (bytes [114,117,
 110])] 5,.str J] b (λa c=>b<=c->uP c (Q (!a)))) (uP c (Q false))))):xO Q N0 J O I N:=
  hE Bz h
theorem th {Q:QT [.int .i64]}{N0 n3 a7 e7 c7 n8 n9 N}(h :
Br (decide (n9<n8)) (ksL n9 e7/\kI 162 [.dg 2 (e7.getD n9.toNat ksD)] N (fun n a=>xY Q N0
 (ksW.wrap (n3+n)) a7 e7 c7 n8 (ksW.wrap (n9+1)) a)) (uP N (Q n3))):xY Q N0 n3 a7 e7 c7 n8 n9 N:=
  hE rD h
theorem ux {Q:QT [.int .i64]}{N0 J Y O c7 U I N}(h :
Br (decide (I<U)) (ksL I O/\kI 163 [.dg 2 (O.getD I.toNat ksD)] N (λn a=>xK Q N0 (if n >
 J then n else J) Y O c7 U (ksW.wrap (I+1)) a)) (uP N (Q (ksW.wrap (J+1)))) ):xK Q N0 J Y O c7 U I N:=
  hE sJ h
theorem DO N x0(Q:QT [.bool])(h :
Bel N x0->kB 165 [.dg 2 x0] N (fun b d=>Br b (∃ a b,∃ c:Nat,(x0.cell 1)=D.sl a 2 b c/\∀ e,ApA (Option.some e) [D.fn (OfNat.ofNat 165) []] ->
 Off [Option.some e] (D.sl a 2 b c)->∀ f,d<=f->wm f [Option.some e]->ACalls prog 194 [.bool] [.sv a 2 b c,.fn 195 [.pd e 0 (.fn 165 [])]] f
 (fun a b=>f<=b->uP b (Q (!a)))) (uP d (Q false)))):ksC 164 [.dg 2 x0,.fn 165 []] N Q:=
  eE F0 h
theorem uR N I e0 J(Q:QT [.bool])(h :
Bel N (D.sl I 4 e0 J)->kI 187 [.sv I 4 e0 J,.fn 148 []] N (λn a=>uP a (Q (decide (n≥0))))):ksC 147 [.sv I 4 e0 J,.fn 148 []] N Q:=
 eE H0 h
theorem sG N I e0 J a1 e1 c1(Q:QT [.bool])(h :
Bel N (D.sl I 2 e0 J)->Bel N (D.sl a1 2 e1 c1)->Br (bne (e0.length:Int) (e1.length:Int)) (uP N (Q false)) (ze Q N a1 e1 c1
 I e0 J (e0.length:Int) 0 N)):ksC 190 [.sv I 2 e0 J,.sv a1 2 e1 c1,.fn 159 []] N Q:=
  eE vP h
theorem DN N I(Q:QT [.bool])(h :
Bel N I->kB 146 [.dg 9 I] N (λb d=>Br b (∃ a b,∃ c:Nat,(I.cell 8)=D.sl a 9 b c/\∀ e,ApA (Option.some e) [D.fn (OfNat.ofNat 146) []] ->
 Off [Option.some e] (D.sl a 9 b c)->∀ f,d<=f->wm f [Option.some e]->ACalls prog 90 [.bool] [.sv a 9 b c,.fn 91 [.pd e 0 (.fn 146 [])]] f (fun
 a b=>f<=b->uP b (Q (!a)))) (uP d (Q false)))):ksC 44 [.dg 9 I,.fn 146 []] N Q:=
  eE Fy h
theorem FT N I J(Q:QT [.bool])(h :
Bel N I->kB 150 [.dg 9 I,.j J] N (λb d=>Br (!b) (uP d (Q false)) (∃ a b,∃ c:Nat,(I.cell 8)=D.sl a 9 b c/\vT Q N J a b
 c (b.length:Int) 0 I d))):ksC 149 [.dg 9 I,.int .i64 J,.fn 150 []] N Q:=
  eE B7 h
theorem rV {Q:QT [.int .i64]}{N0 a0 e0 c0 s1 n5 N}(h :
Br (decide (n5≥0)) (ksL n5 e0/\∃ s,(if 0=0 then D.cell (e0.getD n5.toNat ksD) 0 else D.sub (e0.getD n5.toNat ksD) 0 0)=D.t s/\Br (ksE s s1) (uP N (Q n5)) (wP Q N0 a0 e0 c0 s1 (ksW.wrap (n5 - 1)) N)) (uP N
 (Q (-1)))):wP Q N0 a0 e0 c0 s1 n5 N:=
  hE pK h
theorem rU {Q:QT [.ag 2]}{N0 aj aa ak ai J ab ac ae ah O U I Y N}(h :
Br (decide (J<ai)) (ksL J aa/\kA 2 38 [.dg 2 (aa.getD J.toNat ksD)] N (λx a=>YU U I Y [x] /\
 zA I [x] 32/\∀(c:Nat),xM Q N0 aj aa ak ai (ksW.wrap (J+1)) ab ac ae ah O (I++[x]).length c (I
 ++ [x]) c a)) (uP N (Q (D.ag [D.j O,D.sl U 2 I Y])))):uK Q N0 aj aa ak ai J ab ac ae ah O U I Y N:=
  hE tM h
theorem qn {Q:QT [.ag 2]}{N0 a22 e22 c22 n23 n24 n0_0 a0_1 e0_1 c0_1 y1 y2 N}(h :
Br (decide (n24<n23)) (ksL n24 e22/\kB 159 [.dg 2 (e22.getD n24.toNat ksD),.dg 2 y1] N (fun b a=>Br (!b) (uP a (Q
 (D.ag [D.j 0,D.sl none 2 [] 0]))) (zY Q N0 a22 e22 c22 n23 (ksW.wrap (n24+1)) n0_0 a0_1 e0_1 c0_1 y1 y2 a))) (uP N (Q y2))):zY Q N0 a22 e22 c22 n23 n24 n0_0 a0_1 e0_1 c0_1 y1 y2 N:=
  hE B8 h
theorem ql {Q:QT [.sl 4]}{N0 Y e0 c0 n1 m5 c5 a9 O c9 J I r0 U N}(h :
Br (decide (I<J)) (ksL I O/\kB 94 [.dg 2 (D.sub (O.getD I.toNat ksD) 1 2)] N (λb a=>Br b (∃ n:Int,
 D.cell (O.getD I.toNat ksD) 3=D.j n/\Br (decide (n<=n1)) (∃ s,D.cell (O.getD I.toNat ksD) 0=D.t s/\kI 155 [.sv Y 4 e0 c0,.str
 s] a (λa b=>Br (a==I) (∃ a,D.cell (O.getD I.toNat ksD) 0=D.t a/\∃ d:Int,D.cell (O.getD I.toNat ksD) 3=D.j
 d/\kA 2 38 [.dg 2 (D.sub (O.getD I.toNat ksD) 1 2)] b (λx b=>(m5=r0.length/\c5=U)/\zA r0 [D.ag [D.t a,(x.cell 0),(x.cell
 1),D.j d]] 56/\∀(c:Nat),yT Q N0 Y e0 c0 n1 (r0++[D.ag [D.t a,(x.cell 0),(x.cell 1),D.j d]]).length c a9 O c9 J
 (ksW.wrap (I+1)) (r0++[D.ag [D.t a,(x.cell 0),(x.cell 1),D.j d]]) c b)) (yT Q N0 Y e0 c0 n1 m5 c5 a9 O c9 J
 (ksW.wrap (I+1)) r0 U b))) (yT Q N0 Y e0 c0 n1 m5 c5 a9 O c9 J (ksW.wrap (I+1)) r0 U a)) (yT Q N0 Y
 e0 c0 n1 m5 c5 a9 O c9 J (ksW.wrap (I+1)) r0 U a))) (w3 (m5=r0.length/\c5=U) (∀ a b,N<=b->Fresh N0 b a [D.ag r0]->uP b (Q a r0
 U)))):yT Q N0 Y e0 c0 n1 m5 c5 a9 O c9 J I r0 U N:=
  hE A9 h
theorem sX {Q:QT [.ag 2]}{N0 m9 c9 ah Y y0 aa ab ac ae I J O U r4 q4 N}(h :
Br (decide (Y<ah)) (∀ a,ApA (Option.some a) [D.sl I 4 J O]->∀ b,ApA (Option.some b) [y0]->∀ d,ApA (Option.some d) [D.j
 U]->∀ e,N<=e->wm e [Option.some a,Option.some b,Option.some d]->ACalls prog 154 [.ag 2] [.j Y,.pd a 0 (D.sl I 4 J O),.pd
 b 9 y0,.pd d 0 (D.j U)] e (λx f=>e<=f->Off [Option.some a,Option.some b,Option.some d] x/\(Bel f x->(m9=r4.length/\c9=q4)
 /\ zA r4 [x] 32/\∀(c:Nat),yw Q N0 (r4++[x]).length c ah (ksW.wrap (Y+1)) y0 aa ab ac ae I J O U (r4
 ++ [x]) c f))) (∃ s,(y0.cell 1)=D.t s/\(m9=r4.length/\c9=q4)/\∀ a,ApA a r4->∀ b,N<=b->wm b [a]->ACalls prog 158 [.ag 2] [.str s,.sv a 2
 r4 c9] b (λc d=>b<=d->Off [a] c/\(Bel d c->uP d (Q c))))):yw Q N0 m9 c9 ah Y y0 aa ab ac ae I J O U r4 q4 N:=
  hE pL h
theorem A6 N n0 a1 J U I Y O(Q:QT [.ag 2])(h :
∃ a b,∃ c:Nat,J=D.sl a 4 b c/\∃ d e,∃ f:Nat,(if 0=0 then(I.cell 8)else D.sub I 8 0)=D.sl d 9 e f/\ksL n0 e/\∃ n:Int,O=D.j n/\kA 2 55 [.sv a 4 b c,.dg 9 (e.getD n0.toNat ksD),.j n] N (λx a=>uP a (Q x))):ksC 154 [.int .i64 n0,.pd a1 0 J,.pd U 9 I,.pd Y 0 O] N Q:=
  eE Dd h
theorem uw N J e0 O I(Q:QT [.bool])(h :
Bel N (D.sl J 2 e0 O)->kI 202 [.sv J 2 e0 O,.fn 195 [.pd I 0 (.fn 165 [])]] N (λn a=>uP a (Q (decide (n≥0))))):ksC 194 [.sv J 2 e0 O,.fn 195 [.pd I 0 (.fn 165 [])]] N Q:=
 eE H0 h
theorem tF N I e0 J(Q:QT [.int .i64])(h :
Bel N (D.sl I 4 e0 J)->zn Q N I e0 J (e0.length:Int) 0 N):ksC 187 [.sv I 4 e0 J,.fn 148 []] N Q:=
 eE wb h
theorem wi {Q:QT [.bool]}{N0 a1 e1 c1 U J Y O I N}(h :
Br (decide (I<O)) (ksL I J/\ksL I e1/\kB 159 [.dg 2 (J.getD I.toNat ksD),.dg
 2 (e1.getD I.toNat ksD)] N (λb a=>Br (!b) (uP a (Q false)) (ze Q N0 a1 e1 c1 U J Y O (ksW.wrap (I +
 1)) a))) (uP N (Q true))):ze Q N0 a1 e1 c1 U J Y O I N:=
  hE vP h
theorem uv N J e0 O I(Q:QT [.bool])(h :
Bel N (D.sl J 9 e0 O)->kI 143 [.sv J 9 e0 O,.fn 91 [.pd I 0 (.fn 146 [])]] N (λn a=>uP a (Q (decide (n≥0))))):ksC 90 [.sv J 9 e0 O,.fn 91 [.pd I 0 (.fn 146 [])]] N Q:=
 eE H0 h
theorem ph {Q:QT [.bool]}{N0 n1 U J Y O I y0 N}(h :
Br (decide (I<O)) (ksL I J/\kI 188 [.dg 9 y0,.j n1] N (λn a=>kB 149 [.dg 9 (J.getD I.toNat ksD),.j
 n,.fn 150 []] a (λb a=>Br (!b) (uP a (Q false)) (vT Q N0 n1 U J Y O (ksW.wrap (I+1)) y0 a)))) (uP N (Q true))):vT Q N0 n1 U J Y O I y0 N:=
  hE B7 h
theorem u3 {Q:QT [.ag 2]}{N0 ai Y aj ah I aa ab ac ae J O U r2 q2 N}(h :
Br (decide (I<ah)) (ksL I Y/\kA 2 38 [.dg 2 (Y.getD I.toNat ksD)] N (λx a=>(O=r2.length/\U =
 q2)/\zA r2 [x] 32/\∀(c:Nat),xM Q N0 ai Y aj ah (ksW.wrap (I+1)) aa ab ac ae J (r2++[x]).length c (r2
 ++ [x]) c a)) (w3 (O=r2.length/\U=q2) (∀ a b,N<=b->Fresh N0 b a [D.ag r2]->uP b (Q (D.ag [D.j J,D.sl a 2 r2 q2]))))):xM Q N0 ai Y aj ah I aa ab ac ae J O U r2 q2 N:=
  hE tM h
theorem sI N J e0 O I(Q:QT [.int .i64])(h :
Bel N (D.sl J 2 e0 O)->yM Q N J e0 O I (e0.length:Int) 0 N):ksC 202 [.sv J 2 e0 O,.fn 195 [.pd I 0 (.fn 165 [])]] N Q:=
 eE vR h
theorem wJ {Q:QT [.int .i64]}{N0 a0 e0 c0 n7 n8 N}(h :
Br (decide (n8<n7)) (ksL n8 e0/\kB 148 [.dg 4 (e0.getD n8.toNat ksD)] N (fun b a=>Br b (uP a (Q n8))
 (zn Q N0 a0 e0 c0 n7 (ksW.wrap (n8+1)) a))) (uP N (Q (-1)))):zn Q N0 a0 e0 c0 n7 n8 N:=
  hE wb h
theorem sH N J e0 O I(Q:QT [.int .i64])(h :
Bel N (D.sl J 9 e0 O)->yL Q N J e0 O I (e0.length:Int) 0 N):ksC 143 [.sv J 9 e0 O,.fn 91 [.pd I 0 (.fn 146 [])]] N Q:=
 eE vQ h
theorem wk {Q:QT [.int .i64]}{N0 U e0 Y I O J N}(h :
Br (decide (J<O)) (ksL J e0/\kB 195 [.dg 2 (e0.getD J.toNat ksD),.pd I 0 (.fn 165 [])] N (λb a=>Br b (uP
 a (Q J)) (yM Q N0 U e0 Y I O (ksW.wrap (J+1)) a))) (uP N (Q (-1)))):yM Q N0 U e0 Y I O J N:=
  hE vR h
theorem wj {Q:QT [.int .i64]}{N0 U e0 Y I O J N}(h :
Br (decide (J<O)) (ksL J e0/\kB 91 [.dg 9 (e0.getD J.toNat ksD),.pd I 0 (.fn 146 [])] N (λb a=>Br b (uP
 a (Q J)) (yL Q N0 U e0 Y I O (ksW.wrap (J+1)) a))) (uP N (Q (-1)))):yL Q N0 U e0 Y I O J N:=
  hE vQ h
theorem A5 N I a1(Q:QT [.bool])(h :
Bel N I->kB 164 [.dg 2 I,.fn 165 []] N (λb a=>uP a (Q (!b)))):ksC 195 [.dg 2 I,.pd a1 0 (.fn 165 [])] N Q:=
 eE Dc h
theorem A4 N I a1(Q:QT [.bool])(h :
Bel N I->kB 44 [.dg 9 I,.fn 146 []] N (λb a=>uP a (Q (!b)))):ksC 91 [.dg 9 I,.pd a1 0 (.fn 146 [])] N Q:=
 eE Db h
end Go.Proofs.YtlaniepnglheoaaGreat
set_option maxRecDepth 100000
namespace Go.Proofs.YtlaniepnglheoaaGreat
open Go Go.Proofs Go.Proofs.Tryz
def qa:Hint:=⟨[hc 5 [3,11,12,13]],[],[(7,hs 18 [ec 7 [24]])]⟩
def pJ:Hint:=⟨[hc 6 [3,4,7,26,27,28] [(7,51,4)]],[],[(1,hs 3 [ec 1 [10]]),(2,hs 12 [ec 5 [16]]),(10,hs 7 [ec 2 [42]])]⟩
def A8:Hint:=⟨[hc 3 [3,7,8,9]],[],[(5,hs 5 [ec 2 [14]])]⟩
def B3:Hint:=⟨[],[],[(1,hs 13 [ec 1 [3],ec 4 [6],ec 9 [11]])]⟩
def B5:Hint:=⟨[hc 3 [3,7,8,9]],[],[(5,hs 5 [ec 2 [14]])]⟩
def rF:Hint:=⟨[hc 3 [3,7,8,9] [(3,9,0)]],[],[]⟩
def qb:Hint:=⟨[hc 3 [0,3,4] [(3,9,0)]],[],[(5,hs 26 [ec 13 [24]])]⟩
def F1:Hint:=⟨[],[],[(1,hs 13 [ec 5 [12],ec 10 [17]]),(3,[en 0,en 2,en 7,eh 1,ec 3 [25],en 4,en 5,en 6,eh 8,en 9])]⟩
def BB:Hint:=⟨[hc 3 [1,3,4]],[],[(5,hs 9 [ec 6 [17]])]⟩
def BC:Hint:=⟨[hc 2 [0,1,5]],[],[]⟩
def CC:Hint:=⟨[],[],[(1,hs 13 [ec 1 [3],ec 5 [7],ec 10 [12]])]⟩
def CG:Hint:=⟨[hc 3 [0,3,4] [(3,51,4)]],[],[(5,[en 0,en 1,en 2,en 3,en 4,en 5,en 6,en 7,en 8,en 9,en 10,en 11,en 12,eh 13,eh 14])]⟩
def Ed:Hint:=⟨[hc 2 [1,3]],[],[(4,hs 7 [ec 5 [15]])]⟩
def CO:Hint:=⟨[hc 3 [1,2,5]],[],[(5,hs 8 [ec 6 [23]])]⟩
def E4:Hint:=⟨[],[],[(1,hs 11 [ec 2 [6]])]⟩
def vE:Hint:=⟨[hc 2 [0,1,7,8]],[],[(4,hs 6 [ec 5 [15]])]⟩
def B6:Hint:=⟨[],[],[(1,hs 5 [ec 2 [4]])]⟩
def xr (Q:QT [.bool]) N0 a3 e3 c3 I J O U Y N:=ksT 47 5 Q N0 (an 3 (.sv a3 0 e3 c3::an 7 (.sv I 4 J O::.j U::.j Y::an 23 []))) [] N
def wO (Q:QT [.ag 2,.bool]) N0 m7 c7 Y aa ab ac ae y0 I J O U r2 q2 N:=ksT 18 6 Q N0 (an 3 (.pb 0 0 0 0::.pb 1 0 0 0::an 2 (.sb 2 4 0 m7 c7::an 18 (.sv Y 4 aa ab::.j ac::.j ae::an 17 [])))) [.vd y0 9,.var [.j I,.sv J 2 O U],.arr 51 4 r2 q2] N
def wn (Q:QT [.int .i64]) N0 I J O U Y n9 N:=ksT 98 3 Q N0 (an 3 (.j I::an 3 (.sv J 9 O U::.j Y::.j n9::an 10 []))) [] N
def vS (Q:QT [.int .i64]) N0 I J O U Y n9 N:=ksT 97 3 Q N0 (an 3 (.j I::an 3 (.sv J 9 O U::.j Y::.j n9::an 9 []))) [] N
def xa (Q:QT [.sl 0]) N0 I J O U Y n8 n9 r0 q0 N:=ksT 92 3 Q N0 (an 3 (.sb 0 0 0 I J::an 3 (.sv O 4 U Y::.j n8::.j n9::an 10 []))) [.arr 9 0 r0 q0] N
def xt (Q:QT [.bool]) N0 I e0 J O U Y r0 q0 N:=ksT 59 3 Q N0 (.sv I 4 e0 J::an 2 (.sb 0 0 0 O U::.j Y::an 44 [])) [.arr 9 0 r0 q0] N
def wq (Q:QT [.int .i64]) N0 I J O N:=ksT 113 3 Q N0 (an 1 (.pb 0 0 0 0::an 1 (.j I::.j J::an 17 []))) [.vd O 9] N
def ws (Q:QT [.int .i64]) N0 I e0 J O U N:=ksT 111 2 Q N0 (.sv I 0 e0 J::.str O::an 3 (.j U::an 13 [])) [] N
def wF (Q:QT [.sl 4]) N0 I e0 J O U Y r0 q0 N:=ksT 25 3 Q N0 (.sv I 4 e0 J::an 2 (.sb 0 4 0 O U::.j Y::an 22 [])) [.arr 51 4 r0 q0] N
def uU (Q:QT [.bool]) N0 I J N:=ksT 61 2 Q N0 (an 1 (.pb 0 0 0 0::an 1 (.j I::an 22 []))) [.vd J 9] N
def vi (Q:QT [.int .i64]) N0 I J O N:=ksT 112 3 Q N0 (an 1 (.j I::.pb 0 0 0 0::an 2 (.j J::an 21 []))) [.vd O 9] N
def yA (Q:QT [.int .i64]) N0 J e0 O I U Y N:=ksT 143 2 Q N0 (.sv J 9 e0 O::.fn 91 [.pd I 0 (.fn 45 [])]::an 5 (.j U::.j Y::an 10 [])) [] N
theorem FQ N I e0 J(Q:QT [.bool])(h :
Bel N (D.sl I 4 e0 J)->Br (decide ((e0.length:Int)>5)) (uP N (Q false)) (kL 0 92 [.sv I 4 e0 J] N (λa b c d=>xr Q N a b c
 I e0 J (e0.length:Int) 0 d))):ksC 47 [.sv I 4 e0 J] N Q:=
  eE qa h
theorem Ha N J e0 O I(Q:QT [.ag 2,.bool])(h :
Bel N (D.sl J 4 e0 O)->Bel N I->kB 44 [.dg 9 I,.fn 45 []] N (λb a=>kB 47 [.sv J 4 e0 O] a (λa c=>Br (!a) (uP c (Q (D.ag [D.j 0,
 D.sl none 2 [] 0]) false)) (kB 48 [.dg 9 I] c (λa c=>Br (!a) (uP c (Q (D.ag [D.j 0,D.sl none 2 [] 0]) false)) (Br (!b) (uP c (Q (D.ag [D.j 0,
 D.sl none 2 [] 0]) false)) (wO Q N 0 0 J e0 O (e0.length:Int) 0 I 0 none [] 0 [] 0 c))))))):ksC 18 [.sv J 4 e0 O,.dg 9 I] N Q:=
  eE pJ h
theorem IN N I(Q:QT [.int .i64])(h :
Bel N I->∃ a b,∃ c:Nat,(I.cell 8)=D.sl a 9 b c/\wn Q N 0 a b c (b.length:Int) 0 N):ksC 98 [.dg 9 I] N Q:=
 eE A8 h
theorem qIo N I e0 J O(Q:QT [.int .i64])(h :
Bel N (D.sl I 0 e0 J)->kI 145 [.sv I 0 e0 J,.str O] N (λn a=>uP a (Q n))):ksC 95 [.sv I 0 e0 J,.str O] N Q:=
 eE H0 h
theorem DK N I(Q:QT [.bool])(h :
Bel N I->kB 96 [.dg 9 I] N (λb a=>Br b (∀ b,a<=b->ACalls prog 97 [.i] [.dg 9 I] b (λn a=>b<=a->Br (decide (n<=80)) (kI 98 [.dg
 9 I] a (λa b=>uP b (Q (decide (a<=20))))) (uP a (Q false)))) (uP a (Q false)))):ksC 48 [.dg 9 I] N Q:=
  eE B3 h
theorem LJ N I(Q:QT [.int .i64])(h :
Bel N I->∃ a b,∃ c:Nat,(I.cell 8)=D.sl a 9 b c/\vS Q N 1 a b c (b.length:Int) 0 N):ksC 97 [.dg 9 I] N Q:=
 eE B5 h
theorem ES N I e0 J(Q:QT [.sl 0])(h :
Bel N (D.sl I 4 e0 J)->xa Q N 0 0 I e0 J (e0.length:Int) 0 [] 0 N):ksC 92 [.sv I 4 e0 J] N Q:=
 eE rF h
theorem FW N I e0 J(Q:QT [.bool])(h :
Bel N (D.sl I 4 e0 J)->xt Q N I e0 J 0 0 0 [] 0 N):ksC 59 [.sv I 4 e0 J] N Q:=
 eE qb h
theorem Hh N J e0 O I(Q:QT [.ag 2,.bool])(h :
Bel N (D.sl J 4 e0 O)->Bel N I->kB 59 [.sv J 4 e0 O] N (λb d=>Br (!b) (uP d (Q (D.ag [D.j 0,D.sl none 2 [] 0]) false)) (kB 60 [.dg 9 I] d
 (λb d=>Br (!b) (uP d (Q (D.ag [D.j 0,D.sl none 2 [] 0]) false)) (kB 61 [.dg 9 I] d (λb d=>Br (!b) (uP d (Q (D.ag [D.j 0,D.sl none 2 []
 0]) false)) (kL 4 25 [.sv J 4 e0 O] d (λa b c d=>kAB 2 62 [.sv a 4 b c,.dg 9 I,.j 0] d (λx a b=>uP b (Q x a)))))))))):ksC 22 [.sv J 4 e0 O,.dg 9 I] N Q:=
  eE F1 h
theorem IY N I(Q:QT [.int .i64])(h :
Bel N I->wq Q N 0 0 I N):ksC 113 [.dg 9 I] N Q:=
 eE BB h
theorem IZ N I e0 J O(Q:QT [.int .i64])(h :
Bel N (D.sl I 0 e0 J)->ws Q N I e0 J O 0 N):ksC 111 [.sv I 0 e0 J,.str O] N Q:=
 eE BC h
theorem DR N x0(Q:QT [.bool])(h :
Bel N x0->kI 112 [.dg 9 x0,.j 80] N (fun n a=>Br (decide (n≥0)) (kI 113 [.dg 9 x0] a (fun a c=>Br (decide (a<=20)) (kB 79 [.dg 9 x0] c
 (fun b a=>uP a (Q b))) (uP c (Q false)))) (uP a (Q false)))):ksC 60 [.dg 9 x0] N Q:=
  eE CC h
theorem DV N I e0 J(Q:QT [.sl 4])(h :
Bel N (D.sl I 4 e0 J)->wF Q N I e0 J 0 0 0 [] 0 N):ksC 25 [.sv I 4 e0 J] N Q:=
 eE CG h
theorem Nl N I(Q:QT [.bool])(h :
Bel N I->uU Q N 0 I N):ksC 61 [.dg 9 I] N Q:=
 eE Ed h
theorem Lh N I J(Q:QT [.int .i64])(h :
Bel N I->vi Q N (ksW.wrap (J - 1)) 0 I N):ksC 112 [.dg 9 I,.j J] N Q:=
 eE CO h
theorem sW {Q:QT [.bool]}{N0 a3 e3 c3 a11 e11 c11 n12 n13 N}(h :
Br (decide (n13<n12)) (ksL n13 e11/\∃ s,D.cell (e11.getD n13.toNat ksD) 0=D.t s/\kB 93 [.str s] N (fun b a=>Br
 (!b) (uP a (Q false)) (kB 94 [.dg 2 (D.sub (e11.getD n13.toNat ksD) 1 2)] a (fun a b=>Br (!a) (uP b (Q false)) (∃ a,D.cell (e11.getD n13.toNat ksD) 0=D.t a/\∀ c,b<=c->ACalls prog 95 [.i] [.sv a3 0 e3 c3,.str a] c (fun n a=>c<=a->Br (bne n n13) (uP a (Q false))
 (xr Q N0 a3 e3 c3 a11 e11 c11 n12 (ksW.wrap (n13+1)) a))))))) (uP N (Q true))):xr Q N0 a3 e3 c3 a11 e11 c11 n12 n13 N:=
  hE qa h
theorem Bq N I(Q:QT [.bool])(h :
Bel N I->kB 45 [.dg 9 I] N (λb d=>Br b (∃ a b,∃ c:Nat,(I.cell 8)=D.sl a 9 b c/\∀ e,ApA (Option.some e) [D.fn (OfNat.ofNat 45) []] ->
 Off [Option.some e] (D.sl a 9 b c)->∀ f,d<=f->wm f [Option.some e]->ACalls prog 90 [.bool] [.sv a 9 b c,.fn 91 [.pd e 0 (.fn 45 [])]] f (fun
 a b=>f<=b->uP b (Q (!a)))) (uP d (Q false)))):ksC 44 [.dg 9 I,.fn 45 []] N Q:=
  eE E4 h
theorem rT {Q:QT [.ag 2,.bool]}{N0 m7 c7 ac J ae ab I y0 O U Y aa r2 q2 N}(h :
Br (decide (I<ab)) (ksL I J/\∃ s,D.cell (J.getD I.toNat ksD) 0=D.t s/\(m7=r2.length/\c7=q2) /\
 zA r2 [D.ag [D.t s,D.cell (D.sub (J.getD I.toNat ksD) 1 2) 0,D.cell (D.sub (J.getD I.toNat ksD) 1 2) 1,D.j 0]] 56/\∀(c :
 Nat),wO Q N0 (r2++[D.ag [D.t s,D.cell (D.sub (J.getD I.toNat ksD) 1 2) 0,D.cell (D.sub (J.getD I.toNat ksD) 1 2)
 1,D.j 0]]).length c ac J ae ab (ksW.wrap (I+1)) y0 O U Y aa (r2++[D.ag [D.t s,D.cell (D.sub (J.getD I.toNat ksD) 1
 2) 0,D.cell (D.sub (J.getD I.toNat ksD) 1 2) 1,D.j 0]]) c N) ((m7=r2.length/\c7=q2)/\∀ a,ApA a r2->Off [a] y0->∀ c,N<=c->wm c
 [a]->ACalls prog 49 [.ag 2,.bool] [.sv a 4 r2 c7,.dg 9 y0,.j 0] c (λx b d=>c<=d->Off [a] x/\(Bel d x->uP d (Q x b))))):wO Q N0 m7 c7 ac J ae ab I y0 O U Y aa r2 q2 N:=
  hE pJ h
theorem qk {Q:QT [.int .i64]}{N0 J Y O c7 U I N}(h :
Br (decide (I<U)) (ksL I O/\kI 98 [.dg 9 (O.getD I.toNat ksD)] N (λn a=>wn Q N0 (if n>J
 then n else J) Y O c7 U (ksW.wrap (I+1)) a)) (uP N (Q (ksW.wrap (J+1))))):wn Q N0 J Y O c7 U I N:=
  hE A8 h
theorem pc {Q:QT [.int .i64]}{N0 O Y J c7 U I N}(h :
Br (decide (I<U)) (ksL I J/\∀ a,N<=a->ACalls prog 97 [.i] [.dg 9 (J.getD I.toNat ksD)] a (λn b=>a <=
 b->vS Q N0 (ksW.wrap (O+n)) Y J c7 U (ksW.wrap (I+1)) b)) (uP N (Q O))):vS Q N0 O Y J c7 U I N:=
  hE B5 h
theorem tj {Q:QT [.sl 0]}{N0 U Y a7 J c7 n8 I r0 O N}(h :
Br (decide (I<n8)) (ksL I J/\∃ s,D.cell (J.getD I.toNat ksD) 0=D.t s/\(U=r0.length/\Y=O)/\zA r0
 [D.t s] 16/\∀(c:Nat),xa Q N0 (r0++[D.t s]).length c a7 J c7 n8 (ksW.wrap (I+1)) (r0++[D.t s]) c N) (w3 (U=r0.length /\
 Y=O) (∀ a b,N<=b->Fresh N0 b a [D.ag r0]->uP b (Q a r0 O)))):xa Q N0 U Y a7 J c7 n8 I r0 O N:=
  hE rF h
theorem sY {Q:QT [.bool]}{N0 Y e0 c0 J O I r0 U N}(h :
Br (decide (I<(e0.length:Int))) (ksL I e0/\∃ s,(if 0=0 then D.cell (e0.getD I.toNat ksD) 0 else D.sub
 (e0.getD I.toNat ksD) 0 0)=D.t s/\kB 109 [.str s] N (λb d=>Br (!b) (uP d (Q false)) (ksL I e0/\kB 110 [.dg 2 (if 2
 = 0 then D.cell (e0.getD I.toNat ksD) 1 else D.sub (e0.getD I.toNat ksD) 1 2)] d (λb d=>Br (!b) (uP d (Q false)) (ksL I e0/\∃ b,(if 0=0 then D.cell (e0.getD I.toNat ksD) 0 else D.sub (e0.getD I.toNat ksD) 0 0)=D.t b/\(J=r0.length
 /\ O=U)/\∀ a,ApA a r0->∀ e,d<=e->wm e [a]->ACalls prog 111 [.i] [.sv a 0 r0 O,.str b] e (λn a=>e<=a->Br (decide (n≥0)) (uP a
 (Q false)) (ksL I e0/\∃ b,(if 0=0 then D.cell (e0.getD I.toNat ksD) 0 else D.sub (e0.getD I.toNat ksD) 0 0) =
 D.t b/\(J=r0.length/\O=U)/\zA r0 [D.t b] 16/\∀(c:Nat),xt Q N0 Y e0 c0 (r0++[D.t b]).length c (ksW.wrap (I
 + 1)) (r0++[D.t b]) c a))))))) (∀ a,N<=a->Q (decide ((J:Int)<=5)) a)):xt Q N0 Y e0 c0 J O I r0 U N:=
  hE qb h
theorem qo {Q:QT [.int .i64]}{N0 n3 n4 y0 N}(h :
∃ a b,∃ c:Nat,(y0.cell 8)=D.sl a 9 b c/\Br (decide (n4<(b.length:Int))) (∃ a b,∃ c:Nat,(y0.cell 8)=D.sl a 9 b c/\ksL n4 b/\kI 113 [.dg 9 (b.getD n4.toNat ksD)] N (fun n a=>kI 167 [.j n3,.j n] a (fun a b=>wq Q N0 a
 (ksW.wrap (n4+1)) y0 b))) (uP N (Q (ksW.wrap (n3+1))))):wq Q N0 n3 n4 y0 N:=
  hE BB h
theorem qp {Q:QT [.int .i64]}{N0 O e0 U J I N}(h :
Br (decide (I<(e0.length:Int))) (ksL I e0/\∃ s,e0.getD I.toNat ksD=D.t s/\Br (ksE s J) (uP N (Q I)) (ws Q N0 O e0 U J (ksW.wrap (I+1)) N)) (uP N (Q (-1)))):ws Q N0 O e0 U J I N:=
 hE BC h
theorem vp {Q:QT [.sl 4]}{N0 a0 e0 c0 m3 c3 n4 r0 q0 N}(h :
Br (decide (n4<(e0.length:Int))) (ksL n4 e0/\∃ s,(if 0=0 then D.cell (e0.getD n4.toNat ksD) 0 else D.sub
 (e0.getD n4.toNat ksD) 0 0)=D.t s/\ksL n4 e0/\(m3=r0.length/\c3=q0)/\zA r0 [D.ag [D.t s,D.cell (if 2=0 then
 D.cell (e0.getD n4.toNat ksD) 1 else D.sub (e0.getD n4.toNat ksD) 1 2) 0,D.cell (if 2=0 then D.cell (e0.getD n4.toNat ksD) 1 else
 D.sub (e0.getD n4.toNat ksD) 1 2) 1,D.j 0]] 56/\∀(c:Nat),wF Q N0 a0 e0 c0 (r0++[D.ag [D.t s,D.cell (if 2=0 then D.cell
 (e0.getD n4.toNat ksD) 1 else D.sub (e0.getD n4.toNat ksD) 1 2) 0,D.cell (if 2=0 then D.cell (e0.getD n4.toNat ksD) 1 else D.sub
 (e0.getD n4.toNat ksD) 1 2) 1,D.j 0]]).length c (ksW.wrap (n4+1)) (r0++[D.ag [D.t s,D.cell (if 2=0 then D.cell (e0.getD n4.toNat ksD) 1 else D.sub (e0.getD n4.toNat ksD) 1 2) 0,D.cell (if 2=0 then D.cell (e0.getD n4.toNat ksD) 1 else D.sub (e0.getD n4.toNat ksD) 1 2) 1,D.j 0]]) c N) (w3 (m3=r0.length/\c3=q0) (∀ a b,N<=b->Fresh N0 b a [D.ag r0]->uP b (Q a r0 q0)))):wF Q N0 a0 e0 c0 m3 c3 n4 r0 q0 N:=
  hE CG h
theorem BU {Q:QT [.bool]}{N0 J I N}(h :
∃ a d,∃ c:Nat,(I.cell 8)=D.sl a 9 d c/\Br (decide (J<(d.length:Int))) (∃ a c,∃ d:Nat,(I.cell 8)=D.sl a 9 c d/\ksL J c/\kB 61 [.dg 9 (c.getD J.toNat ksD)] N (λb a=>Br (!b) (uP a (Q false)) (uU Q N0 (ksW.wrap
 (J+1)) I a))) (∃ n:Int,(I.cell 0)=D.j n/\kB 63 [.j n,.j 1,.j 5] N (λa b=>Br a (uP b (Q true)) (∃ a:Int,(I.cell 0)=D.j a/\uP
 b (Q (a==8)))))):uU Q N0 J I N:=
  hE Ed h
theorem AA {Q:QT [.int .i64]}{N0 n1 n5 y0 N}(h :
∃ a b,∃ c:Nat,(y0.cell 8)=D.sl a 9 b c/\Br (decide (n5<(b.length:Int))) (Br (decide (n1≥0)) (∃ a b,∃ c:Nat,(y0.cell 8)=D.sl
 a 9 b c/\ksL n5 b/\kI 112 [.dg 9 (b.getD n5.toNat ksD),.j n1] N (fun n a=>vi Q N0 n
 (ksW.wrap (n5+1)) y0 a)) (uP N (Q n1))) (uP N (Q n1))):vi Q N0 n1 n5 y0 N:=
  hE CO h
theorem uk N J e0 O I(Q:QT [.bool])(h :
Bel N (D.sl J 9 e0 O)->kI 143 [.sv J 9 e0 O,.fn 91 [.pd I 0 (.fn 45 [])]] N (λn a=>uP a (Q (decide (n≥0))))):ksC 90 [.sv J 9 e0 O,.fn 91 [.pd I 0 (.fn 45 [])]] N Q:=
 eE H0 h
theorem t8 N J e0 O I(Q:QT [.int .i64])(h :
Bel N (D.sl J 9 e0 O)->yA Q N J e0 O I (e0.length:Int) 0 N):ksC 143 [.sv J 9 e0 O,.fn 91 [.pd I 0 (.fn 45 [])]] N Q:=
 eE vE h
theorem wY {Q:QT [.int .i64]}{N0 a0 e0 c0 a1_0 n7 n8 N}(h :
Br (decide (n8<n7)) (ksL n8 e0/\kB 91 [.dg 9 (e0.getD n8.toNat ksD),.pd a1_0 0 (.fn 45 [])] N (fun b a=>Br b (uP a
 (Q n8)) (yA Q N0 a0 e0 c0 a1_0 n7 (ksW.wrap (n8+1)) a))) (uP N (Q (-1)))):yA Q N0 a0 e0 c0 a1_0 n7 n8 N:=
  hE vE h
theorem AU N I a1(Q:QT [.bool])(h :
Bel N I->kB 44 [.dg 9 I,.fn 45 []] N (λb a=>uP a (Q (!b)))):ksC 91 [.dg 9 I,.pd a1 0 (.fn 45 [])] N Q:=
 eE B6 h
end Go.Proofs.YtlaniepnglheoaaGreat
set_option maxRecDepth 100000
namespace Go.Proofs.YtlaniepnglheoaaGreat
open Go Go.Proofs Go.Proofs.Tryz
def CN:Hint:=⟨[hc 3 [1,2,3,4] [] [(3,8,30,9)]],[],[(1,[en 0,en 1,en 2,en 3,en 4,en 5,en 6,en 7,en 8,en 9,en 11,en 12,en 15,{ i:=10,hard:=true,cl:=[14],fs:=[3,14] },{ i:=13,hard:=true,cl:=[17],fs:=[3,17] },en 14,eh 16]),(5,[en 0,en 1,en 2,en 3,en 4,en 5,en 6,{ i:=7,hard:=true,cl:=[33],fs:=[3,33] },{ i:=8,hard:=true,cl:=[34],fs:=[3,34] },eh 9,en 10,eh 11])]⟩
def CP:Hint:=⟨[hc 3 [1,4,5,6] [] [(5,8,30,9)]],[],[(5,[en 0,en 1,en 2,en 3,en 4,en 5,{ i:=6,hard:=true,cl:=[20],fs:=[5,20] },{ i:=7,hard:=true,cl:=[21],fs:=[5,21] },eh 8,en 9,eh 10])]⟩
def CJ:Hint:=⟨[hc 3 [1,2,4,5,6]],[],[(1,hs 4 [ec 1 [8]]),(8,[en 0,en 1,en 2,en 3,en 4,en 5,en 6,en 7,en 8,ec 9 [36],ec 10 [38],en 11,eh 12]),(9,hs 3 [ec 1 [41]])]⟩
def H2:Hint:=⟨[],[],[(1,hs 5 [ec 2 [6]]),(4,hs 3 [ec 1 [17]]),(5,hs 13 [ec 9 [27]]),(6,[en 0,en 1,en 2,en 3,en 4,en 5,en 6,en 7,en 8,en 10,en 11,en 12,en 13,en 14,ec 9 [39],ec 15 [45],en 16,eh 17,eh 18]),(7,hs 13 [ec 9 [58]]),(8,[en 0,en 1,en 2,en 3,en 4,en 5,en 6,en 7,en 8,en 9,en 10,en 11,en 12,eh 13,ec 14 [72],ec 15 [68,77],eh 16]),(9,hs 4 [ec 2 [79]])]⟩
def Hy:Hint:=⟨[],[],[(1,hs 9 [ec 2 [9]]),(4,[en 0,en 1,eh 2,ec 3 [16],eh 4])]⟩
def E3:Hint:=⟨[],[],[(1,[en 0,en 1,en 2,en 3,en 4,en 5,en 6,en 7,en 8,en 9,en 11,en 12,en 14,ec 10 [14],ec 13 [17],en 15,eh 16])]⟩
def sL:Hint:=⟨[hc 3 [1,2,4,5,10,11,12] [(5,30,9)]],[],[(5,hs 7 [ec 3 [18]]),(7,hs 4 [ec 2 [23,24]])]⟩
def Fx:Hint:=⟨[],[],[(1,hs 3 [ec 1 [3]])]⟩
def wG (Q:QT [.pk,.int .i64,.str,.str,.int .i64,.dc,.dc,.dc,.dc,.row 30 9]) N0 n4 y0 I J O U Y aa ab ac ae ah ai aj ak al am ao aq au aw ax ay az a0 a2 a3 r3 q3 N:=ksT 32 3 Q N0 (an 1 (.pb 0 0 0 0::.pb 1 0 0 0::.pb 2 0 0 0::.j n4::an 34 [])) [.vd y0 9,ksV I J O U Y aa ab ac ae ah ai aj ak al am,.var [.j ao,.str aq,.str au,.j aw,.dc ax,.dc ay,.dc az,.dc a0,.sb 3 9 0 a2 a3],.arr 30 9 r3 q3] N
def vk (Q:QT [.ag 9]) N0 a1 e1 c1 n6 I J O U Y aa ab ac ae ah ai aj ak al am ao aq au aw ax ay az a0 a2 a3 a4 a5 a6 a7 r2 q2 N:=ksT 28 3 Q N0 (an 1 (.sv a1 9 e1 c1::an 2 (.pb 0 0 0 0::.pb 1 0 0 0::.j n6::an 19 []))) [ksV I J O U Y aa ab ac ae ah ai aj ak al am,.var [.j ao,.str aq,.str au,.j aw,.j ax,.sv ay 2 az a0,.j a2,.sv a3 2 a4 a5,.sb 2 9 0 a6 a7],.arr 30 9 r2 q2] N
def yj (Q:QT [.ag 9]) N0 a1 e1 c1 n6 y0 I J O U Y aa ab ac ae ah ai aj ak al am ao aq au aw ax ay az a0 a2 a3 r3 q3 N:=ksT 177 3 Q N0 (an 1 (.sv a1 2 e1 c1::.pb 0 0 0 0::an 1 (.pb 1 0 0 0::.pb 2 0 0 0::.j n6::an 36 []))) [.vd y0 9,ksV I J O U Y aa ab ac ae ah ai aj ak al am,.var [.j ao,.str aq,.str au,.j aw,.dc ax,.dc ay,.dc az,.dc a0,.sb 3 9 0 a2 a3],.arr 30 9 r3 q3] N
def xL (Q:QT [.ag 9]) N0 m5 c5 ao aq au aw ax y0 I J O U Y aa ab ac ae ah ai aj ak al am r2 q2 N:=ksT 88 3 Q N0 (an 1 (.fn 39 []::.pb 0 0 0 0::an 1 (.pb 1 0 0 0::.sb 2 9 0 m5 c5::an 4 (.sv ao 9 aq au::.j aw::.j ax::an 13 [])))) [.vd y0 9,ksV I J O U Y aa ab ac ae ah ai aj ak al am,.arr 30 9 r2 q2] N
theorem DX N x0(Q:QT [.pk,.int .i64,.str,.str,.int .i64,.dc,.dc,.dc,.dc,.row 30 9])(h :
Bel N x0->∃ n:Int,(x0.cell 0)=D.j n/\∃ s,(x0.cell 1)=D.t s/\∃ a,(x0.cell 2)=D.t a/\∃ b:Int,(x0.cell 3)=D.j b/\kA 2 42 [.dg 2
 (D.sub x0 4 2)] N (fun x c=>kA 2 42 [.dg 2 (D.sub x0 6 2)] c (fun c d=>wG Q N 0 x0 0 b0 b0 0 0 none [] 0 0 none [] 0 none [] 0 n s a b
 (x.cell 0) (x.cell 1) (c.cell 0) (c.cell 1) 0 0 [] 0 d))):ksC 32 [.dg 9 x0] N Q:=
  eE CN h
theorem Li N n0 a1 e1 c1(Q:QT [.ag 9])(h :
Bel N (D.sl a1 9 e1 c1)->vk Q N a1 e1 c1 0 0 b0 b0 0 0 none [] 0 0 none [] 0 none [] 0 n0 b0 b0 0 0 none [] 0 0 none [] 0 0 0 [] 0 N):ksC 28 [.j n0,.sv a1 9 e1 c1] N Q:=
 eE CP h
theorem Nr N s0 x1 x2(Q:QT [.ag 9])(h :
Bel N x1->Bel N x2->(2=([x1,x2]).length/\2=2)/\∀ a,ApA a [x1,x2]->∀ b,N<=b->wm b [a]->ACalls prog 28 [.ag 9] [.j 8,.sv a 9 [x1,x2]
 2] b (fun x c=>b<=c->Off [a] x/\(Bel c x->uP c (Q (D.ag [(x.cell 0),D.t s0,(x.cell 2),(x.cell 3),(x.cell 4),(x.cell 5),(x.cell 6),(x.cell 7),
 (x.cell 8)]))))):ksC 120 [.str s0,.dg 9 x1,.dg 9 x2] N Q:=
  eE H0 h
theorem Hm N I(Q:QT [.ag 9])(h :
Bel N I->(1=([I]).length/\1=1)/\∀ a,ApA a [I]->∀ b,N<=b->wm b [a]->ACalls prog 28 [.ag 9] [.j 10,.sv a 9 [I] 1] b (λx c=>b <=
 c->Off [a] x/\(Bel c x->uP c (Q x)))):ksC 70 [.dg 9 I] N Q:=
  eE H0 h
theorem Ff N I(Q:QT [.ag 9])(h :
Bel N I->(1=([I]).length/\1=1)/\∀ a,ApA a [I]->∀ b,N<=b->wm b [a]->ACalls prog 28 [.ag 9] [.j 11,.sv a 9 [I] 1] b (λx c=>b <=
 c->Off [a] x/\(Bel c x->uP c (Q x)))):ksC 71 [.dg 9 I] N Q:=
  eE H0 h
theorem LZ N I a1 e1 c1(Q:QT [.ag 9])(h :
Bel N I->Bel N (D.sl a1 2 e1 c1)->∀ a,N<=a->ACalls prog 32 [.pk,.i,.str,.str,.i,.dc,.dc,.dc,.dc,.row 30 9] [.dg 9 I] a (λn s b c
 x d e f g h i=>a<=i->Bel i (D.ag g)->yj Q N a1 e1 c1 0 I 0 b0 b0 0 0 none [] 0 0 none [] 0 none [] 0 n s b c x d e f
 g.length h g h i)):ksC 177 [.dg 9 I,.sv a1 2 e1 c1] N Q:=
  eE CJ h
theorem Ik N I a1 e1 c1(Q:QT [.ag 9])(h :
Bel N I->Bel N (D.sl a1 2 e1 c1)->kB 65 [.dg 9 I,.sv a1 2 e1 c1] N (λb d=>Br (!b) ((1=([I]).length/\1=1)/\∀ a,ApA a [I]->∀ b,d<=b
 -> wm b [a]->ACalls prog 28 [.ag 9] [.j 13,.sv a 9 [I] 1] b (λx c=>b<=c->Off [a] x/\(Bel c x->uP c (Q x)))) (∃ n:Int,(I.cell 0)=D.j n
 /\ Br (n==1) (kA 9 70 [.dg 9 I] d (λa b=>uP b (Q a))) (∃ a:Int,(I.cell 0)=D.j a/\Br (a==5) (∃ a b,∃ c:Nat,(I.cell 8)=D.sl
 a 9 b c/\ksL 0 b/\kB 65 [.dg 9 (b.getD 0 ksD),.sv a1 2 e1 c1] d (λa b=>Br (!a) (∃ a c,
 ∃ d:Nat,(I.cell 8)=D.sl a 9 c d/\ksL 0 c/\∃ a d,∃ e:Nat,(I.cell 8)=D.sl a 9 d e
 /\ ksL 1 d/\∃ a e,∃ f:Nat,(I.cell 8)=D.sl a 9 e f/\ksL 2 e/\kA 9 121 [.dg 9 (d.getD 1 ksD),.sv a1 2 e1 c1] b (λa b=>kA 9 121 [.dg 9 (e.getD 2 ksD),.sv a1 2 e1 c1] b (λb
 d=>(3=([c.getD 0 ksD,a,b]).length/\3=3)/\∀ e,ApA e [c.getD 0 ksD,a,b]->∀ f,d<=f->wm f [e] ->
 ACalls prog 28 [.ag 9] [.j 5,.sv e 9 [c.getD 0 ksD,a,b] 3] f (λa b=>f<=b->Off [e] a/\(Bel b a->uP b (Q
 a)))))) (∃ a:Int,(I.cell 0)=D.j a/\Br (a==8) (∃ a c,∃ d:Nat,(I.cell 8)=D.sl a 9 c d/\ksL 0 c/\kB 65 [.dg 9 (c.getD 0 ksD),.sv a1 2 e1 c1] b (λa b=>Br (!a) (∃ s,(I.cell 1)=D.t s/\∃ a c,∃ d :
 Nat,(I.cell 8)=D.sl a 9 c d/\ksL 0 c/\∃ a d,∃ e:Nat,(I.cell 8)=D.sl a 9 d e/\ksL 1 d/\∃ a,(I.cell 1)=D.t a/\kL 2 116 [.sv a1 2 e1 c1,.str a,.bool false] b (λa b e f=>kA 9
 121 [.dg 9 (d.getD 1 ksD),.sv a 2 b e] f (λa b=>kA 9 120 [.str s,.dg 9 (c.getD 0 ksD),.dg 9 a] b (λa b
 => uP b (Q a))))) (kA 9 177 [.dg 9 I,.sv a1 2 e1 c1] b (λa b=>uP b (Q a))))) (kA 9 177 [.dg 9 I,.sv a1 2 e1 c1] b (λa b=>uP
 b (Q a)))))) (∃ a:Int,(I.cell 0)=D.j a/\Br (a==8) (∃ a b,∃ c:Nat,(I.cell 8)=D.sl a 9 b c/\ksL 0 b/\kB 65 [.dg 9 (b.getD 0 ksD),.sv a1 2 e1 c1] d (λa b=>Br (!a) (∃ a,(I.cell 1)=D.t a/\∃ c d,∃
 e:Nat,(I.cell 8)=D.sl c 9 d e/\ksL 0 d/\∃ c e,∃ f:Nat,(I.cell 8)=D.sl c 9 e
 f/\ksL 1 e/\∃ c,(I.cell 1)=D.t c/\kL 2 116 [.sv a1 2 e1 c1,.str c,.bool false] b (λb c
 f g=>kA 9 121 [.dg 9 (e.getD 1 ksD),.sv b 2 c f] g (λb c=>kA 9 120 [.str a,.dg 9 (d.getD 0 ksD),.dg 9
 b] c (λa b=>uP b (Q a))))) (kA 9 177 [.dg 9 I,.sv a1 2 e1 c1] b (λa b=>uP b (Q a))))) (kA 9 177 [.dg 9 I,.sv a1 2 e1 c1]
 d (λa b=>uP b (Q a)))))))):ksC 121 [.dg 9 I,.sv a1 2 e1 c1] N Q:=
  eE H2 h
theorem IX N a0 e0 c0 x1(Q:QT [.ag 9])(h :
Bel N (D.sl a0 4 e0 c0)->Bel N x1->kAB 2 22 [.sv a0 4 e0 c0,.dg 9 x1] N (fun _ b d=>Br (!b) (∀ a,d<=a->Q (D.ag [D.j 0,D.t b0,D.t b0,D.j 0,
 D.j 0,D.sl none 2 [] 0,D.j 0,D.sl none 2 [] 0,D.sl none 9 [] 0]) a) (kL 2 122 [.sv a0 4 e0 c0] d (fun a b c d=>kA 9 121 [.dg 9 x1,.sv a 2 b c] d
 (fun a b=>uP b (Q a)))))):ksC 72 [.sv a0 4 e0 c0,.dg 9 x1] N Q:=
  eE Hy h
theorem FS N I a1 e1 c1(Q:QT [.ag 9])(h :
Bel N I->Bel N (D.sl a1 9 e1 c1)->∃ n:Int,(I.cell 0)=D.j n/\∃ s,(I.cell 1)=D.t s/\∃ a,(I.cell 2)=D.t a/\∃ b:Int,(I.cell 3) =
 D.j b/\kA 2 38 [.dg 2 (D.sub I 4 2)] N (λx c=>kA 2 38 [.dg 2 (D.sub I 6 2)] c (λc d=>uP d (Q (D.ag [D.j n,D.t s,D.t a,D.j b,(x.cell
 0),(x.cell 1),(c.cell 0),(c.cell 1),D.sl a1 9 e1 c1]))))):ksC 58 [.dg 9 I,.sv a1 9 e1 c1] N Q:=
  eE E3 h
theorem Hc N I(Q:QT [.ag 9])(h :
Bel N I->kA 9 88 [.dg 9 I,.fn 39 []] N (λx a=>uP a (Q x))):ksC 39 [.dg 9 I] N Q:=
 eE Fx h
theorem vq {Q:QT [.pk,.int .i64,.str,.str,.int .i64,.dc,.dc,.dc,.dc,.row 30 9]}{N0 n4 y0 ai aj ak al am ao aq au aw ax ay az a0 a2 a3 aa ab ac ae I J O U ah Y r3 q3 N}(h :
∃ a b,∃ c:Nat,(y0.cell 8)=D.sl a 9 b c/\Br (decide (n4<(b.length:Int))) (∃ a b,∃ c:Nat,(y0.cell 8)=D.sl a 9 b c/\ksL n4 b/\∀ a,N<=a->ACalls prog 32 [.pk,.i,.str,.str,.i,.dc,.dc,.dc,.dc,.row 30 9] [.dg 9 (b.getD n4.toNat ksD)]
 a (λn s b c x d e f g h i=>a<=i->Bel i (D.ag g)->(g.length=g.length/\h=h)/\∀ a j,i<=j->Fresh N0 j a
 [D.ag g,x,d,e,f,I,J,O,U,D.ag r3]->(ah=r3.length/\Y=q3)/\zA r3 [D.ag [D.j n,D.t s,D.t b,D.j c,x,d,e,
 f,D.sl a 9 g h]] 136/\∀(i:Nat),wG Q N0 (ksW.wrap (n4+1)) y0 ai aj ak al am ao aq au aw ax ay az
 a0 a2 a3 aa ab ac ae I J O U (r3++[D.ag [D.j n,D.t s,D.t b,D.j c,x,d,e,f,D.sl a 9 g h]]).length i (r3 ++
 [D.ag [D.j n,D.t s,D.t b,D.j c,x,d,e,f,D.sl a 9 g h]]) i j)) ((ah=r3.length/\Y=q3)/\uP N (Q aa ab ac ae I J
 O U r3 Y))):wG Q N0 n4 y0 ai aj ak al am ao aq au aw ax ay az a0 a2 a3 aa ab ac ae I J O U ah Y r3 q3 N:=
  hE CN h
theorem AB {Q:QT [.ag 9]}{N0 a1 e1 c1 n6 am ao aq au aw ax ay az a0 a2 a3 a4 a5 a6 a7 ab ac ae ah ai I J O aj U Y aa ak al r2 q2 N}(h :
Br (decide (n6<(e1.length:Int))) (ksL n6 e1/\∀ b,N<=b->ACalls prog 32 [.pk,.i,.str,.str,.i,.dc,.dc,.dc,.dc,.row
 30 9] [.dg 9 (e1.getD n6.toNat ksD)] b (λn s c d x e f g h i j=>b<=j->Bel j (D.ag h)->(h.length=h.length/\i=i)/\∀ a
 b,j<=b->Fresh N0 b a [D.ag h,x,e,f,g,D.sl I 2 J O,D.sl U 2 Y aa,D.ag r2]->(ak=r2.length/\al=q2)/\zA r2
 [D.ag [D.j n,D.t s,D.t c,D.j d,x,e,f,g,D.sl a 9 h i]] 136/\∀(j:Nat),vk Q N0 a1 e1 c1 (ksW.wrap (n6+1)) am
 ao aq au aw ax ay az a0 a2 a3 a4 a5 a6 a7 ab ac ae ah ai I J O aj U Y aa (r2++[D.ag [D.j n,D.t s,
 D.t c,D.j d,x,e,f,g,D.sl a 9 h i]]).length j (r2++[D.ag [D.j n,D.t s,D.t c,D.j d,x,e,f,g,D.sl a 9 h i]]) j b)) (w3
 (ak=r2.length/\al=q2) (∀ a b,N<=b->Fresh N0 b a [D.ag r2,D.sl I 2 J O,D.sl U 2 Y aa]->uP b (Q (D.ag [D.j ab,D.t ac,
 D.t ae,D.j ah,D.j ai,D.sl I 2 J O,D.j aj,D.sl U 2 Y aa,D.sl a 9 r2 q2]))))):vk Q N0 a1 e1 c1 n6 am ao aq au aw ax ay az a0 a2 a3 a4 a5 a6 a7 ab ac ae ah ai I J O aj U Y aa ak al r2 q2 N:=
  hE CP h
theorem px {Q:QT [.ag 9]}{N0 a1 e1 c1 I y0 aj ak al am ao aq au aw ax ay az a0 a2 a3 a4 O U Y aa ab ac ae ah}{J ai:Nat}{r3 q3 N}(h :
∃ a b,∃ c:Nat,(y0.cell 8)=D.sl a 9 b c/\Br (decide (I<(b.length:Int))) (∃ n:Int,(y0.cell 0)=D.j n/\Br (n==8) (Br (I==1) (∃ s,
 (y0.cell 1)=D.t s/\kL 2 116 [.sv a1 2 e1 c1,.str s,.bool true] N (λa b c d=>∃ e f,∃ g:Nat,(y0.cell 8)=D.sl e 9 f g/\ksL I f/\kA 9 121 [.dg 9 (f.getD I.toNat ksD),.sv a 2 b c] d (λx a=>kA 9 71 [.dg 9 x] a (λa b=>(0 <=
 I/\I<(J:Int)/\(0+I.toNat:Nat)<r3.length)/\(0+I.toNat:Nat)<r3.length/\yj Q N0 a1 e1 c1 (ksW.wrap (I+1)) y0
 aj ak al am ao aq au aw ax ay az a0 a2 a3 a4 O U Y aa ab ac ae ah J ai (List.set r3 (0+I.toNat:Nat)
 a) q3 b)))) (∃ a b,∃ c:Nat,(y0.cell 8)=D.sl a 9 b c/\ksL I b/\kA 9 121 [.dg 9 (b.getD I.toNat ksD),.sv a1 2 e1 c1] N (λa b=>kA 9 71 [.dg 9 a] b (λa b=>(0<=I/\I<(J:Int)/\(0+I.toNat:Nat)<r3.length)/\(0 +
 I.toNat:Nat)<r3.length/\yj Q N0 a1 e1 c1 (ksW.wrap (I+1)) y0 aj ak al am ao aq au aw ax ay az a0 a2 a3
 a4 O U Y aa ab ac ae ah J ai (List.set r3 (0+I.toNat:Nat) a) q3 b)))) (∃ a b,∃ c:Nat,(y0.cell 8)=D.sl a 9 b
 c/\ksL I b/\kA 9 121 [.dg 9 (b.getD I.toNat ksD),.sv a1 2 e1 c1] N (λa b=>kA 9 71 [.dg 9 a] b (fun
 a b=>(0<=I/\I<(J:Int)/\(0+I.toNat:Nat)<r3.length)/\(0+I.toNat:Nat)<r3.length/\yj Q N0 a1 e1 c1 (ksW.wrap
 (I+1)) y0 aj ak al am ao aq au aw ax ay az a0 a2 a3 a4 O U Y aa ab ac ae ah J ai (List.set r3 (0 +
 I.toNat:Nat) a) q3 b)))) (w2 (J=r3.length/\ai=q3) (∀ a b,N<=b->Fresh N0 b a [D.ag r3]->kA 9 70 [.dg 9 (D.ag [D.j O,D.t U,
 D.t Y,D.j aa,ab,ac,ae,ah,D.sl a 9 r3 q3])] b (λa b=>uP b (Q a))))):yj Q N0 a1 e1 c1 I y0 aj ak al am ao aq au aw ax ay az a0 a2 a3 a4 O U Y aa ab ac ae ah J ai r3 q3 N:=
  hE CJ h
theorem AS N I(Q:QT [.ag 9])(h :
Bel N I->∃ a b,∃ c:Nat,(I.cell 8)=D.sl a 9 b c/\xL Q N 0 0 a b c (b.length:Int) 0 I 0 b0 b0 0 0 none [] 0 0 none [] 0
 none [] 0 [] 0 N):ksC 88 [.dg 9 I,.fn 39 []] N Q:=
  eE sL h
theorem uz {Q:QT [.ag 9]}{N0 m5 c5 aw J ax au I y0 O U Y aa ab ac ae ah ai aj ak al am ao aq r2 q2 N}(h :
Br (decide (I<au)) (ksL I J/\kA 9 39 [.dg 9 (J.getD I.toNat ksD)] N (λx a=>(m5=r2.length/\c5=q2)
 /\ zA r2 [x] 136/\∀(c:Nat),xL Q N0 (r2++[x]).length c aw J ax au (ksW.wrap (I+1)) y0 O U Y aa ab ac
 ae ah ai aj ak al am ao aq (r2++[x]) c a)) (w2 (m5=r2.length/\c5=q2) (∀ a b,N<=b->Fresh N0 b a [D.ag r2]->kA 9 58 [.dg 9 y0,
 .sv a 9 r2 q2] b (λa b=>uP b (Q a))))):xL Q N0 m5 c5 aw J ax au I y0 O U Y aa ab ac ae ah ai aj ak al am ao aq r2 q2 N:=
  hE sL h
end Go.Proofs.YtlaniepnglheoaaGreat
set_option maxRecDepth 100000
namespace Go.Proofs.YtlaniepnglheoaaGreat
open Go Go.Proofs Go.Proofs.Tryz
def sP:Hint:=⟨[hc 3 [0,1,5,6] [(5,9,0)]],[],[]⟩
def uJ:Hint:=⟨[hc 3 [0,1,5,6] [(5,9,0)],hc 8 [1,5,7] [(5,9,0)]],[],[]⟩
def tQ:Hint:=⟨[hc 6 [1,3,4,5,6],hc 10 [1,3,4,5,6,7,8]],[],[(8,hs 7 [ec 5 [32]])]⟩
def qe:Hint:=⟨[hc 5 [0,3,4]],[],[]⟩
def qf:Hint:=⟨[hc 3 [0,3]],[],[]⟩
def yY (Q:QT [.sl 0]) N0 I e0 J O U Y n6 r0 q0 N:=ksT 203 3 Q N0 (.sv I 0 e0 J::.str O::an 3 (.sb 0 0 0 U Y::.j n6::an 21 [])) [.arr 9 0 r0 q0] N
def yi (Q:QT [.row 9 0]) N0 I e0 J a1 e1 c1 O U Y r0 q0 N:=ksT 204 3 Q N0 (.sv I 0 e0 J::.sv a1 0 e1 c1::an 3 (.sb 0 0 0 O U::.j Y::an 43 [])) [.arr 9 0 r0 q0] N
def yG (Q:QT [.sl 0]) N0 I J O U Y c5 n6 y0 r1 q1 N:=ksT 199 6 Q N0 (an 1 (.pb 0 0 0 0::an 1 (.sv I 0 J O::.j U::.sb 1 0 0 Y c5::.j n6::an 48 []))) [.vd y0 9,.arr 9 0 r1 q1] N
def yz (Q:QT [.str]) N0 n0 b3 I N:=ksT 206 5 Q N0 (.j n0::an 2 (.bool b3::.str I::an 26 [])) [] N
def xv (Q:QT [.str]) N0 I e0 J O N:=ksT 205 3 Q N0 (.sv I 0 e0 J::an 2 (.j O::an 11 [])) [] N
def yH (Q:QT [.row 9 0]) N0 a1 e1 c1 I J O r0 U N:=ksT 204 8 Q N0 (an 1 (.sv a1 0 e1 c1::an 3 (.sb 0 0 0 I J::an 1 (.j O::an 42 [])))) [.arr 9 0 r0 U] N
def y9 (Q:QT [.sl 0]) N0 I J O U Y c5 n6 a7 e7 c7 n8 y0 r1 q1 N:=ksT 199 10 Q N0 (an 1 (.pb 0 0 0 0::an 1 (.sv I 0 J O::.j U::.sb 1 0 0 Y c5::.j n6::.sv a7 0 e7 c7::.j n8::an 46 []))) [.vd y0 9,.arr 9 0 r1 q1] N
theorem Iq N x0(Q:QT [.sl 0,.int .i64])(h :
Bel N x0->∃ n:Int,(x0.cell 0)=D.j n/\Br (n==6) (∃ a b,∃ c:Nat,(x0.cell 8)=D.sl a 9 b c/\Br ((b.length:Int)==1) (∃ s,(x0.cell 1) =
 D.t s/\w2 (1=([D.t s]).length/\1=1) (∀ a b,N<=b->Fresh N b a [D.ag [D.t s]]->uP b (Q a [D.t s] 1 0))) (∃ a:Int,(x0.cell 0)=D.j a /\
 Br (a==8) (∃ a b,∃ c:Nat,(x0.cell 8)=D.sl a 9 b c/\Br ((b.length:Int)==2) (∃ a,(x0.cell 1)=D.t a/\w2 (1=([D.t
 a]).length/\1=1) (∀ b c,N<=c->Fresh N c b [D.ag [D.t a]]->uP c (Q b [D.t a] 1 1))) (∃ a:Int,(x0.cell 0)=D.j a/\Br (a==9) (∃
 a b,∃ c:Nat,(x0.cell 8)=D.sl a 9 b c/\Br ((b.length:Int)==1) (∃ a,(x0.cell 1)=D.t a/\∃ b,(x0.cell 2)=D.t b/\w2 (2 =
 ([D.t a,D.t b]).length/\2=2) (∀ c d,N<=d->Fresh N d c [D.ag [D.t a,D.t b]]->uP d (Q c [D.t a,D.t b] 2 0))) (w2 (0=0/\0=0)
 (∀ a b,N<=b->Fresh N b a [D.ag []]->uP b (Q a [] 0 (-1))))) (w2 (0=0/\0=0) (∀ a b,N<=b->Fresh N b a [D.ag []]->uP b (Q a [] 0
 (-1)))))) (∃ a:Int,(x0.cell 0)=D.j a/\Br (a==9) (∃ a b,∃ c:Nat,(x0.cell 8)=D.sl a 9 b c/\Br ((b.length:Int)==1) (∃
 a,(x0.cell 1)=D.t a/\∃ b,(x0.cell 2)=D.t b/\w2 (2=([D.t a,D.t b]).length/\2=2) (∀ c d,N<=d->Fresh N d c [D.ag [D.t a,
 D.t b]]->uP d (Q c [D.t a,D.t b] 2 0))) (w2 (0=0/\0=0) (∀ a b,N<=b->Fresh N b a [D.ag []]->uP b (Q a [] 0 (-1))))) (w2 (0
 = 0/\0=0) (∀ a b,N<=b->Fresh N b a [D.ag []]->uP b (Q a [] 0 (-1))))))) (∃ a:Int,(x0.cell 0)=D.j a/\Br (a==8) (∃ a
 b,∃ c:Nat,(x0.cell 8)=D.sl a 9 b c/\Br ((b.length:Int)==2) (∃ a,(x0.cell 1)=D.t a/\w2 (1=([D.t a]).length/\1=1) (∀
 b c,N<=c->Fresh N c b [D.ag [D.t a]]->uP c (Q b [D.t a] 1 1))) (∃ a:Int,(x0.cell 0)=D.j a/\Br (a==9) (∃ a b,∃ c
 : Nat,(x0.cell 8)=D.sl a 9 b c/\Br ((b.length:Int)==1) (∃ a,(x0.cell 1)=D.t a/\∃ b,(x0.cell 2)=D.t b/\w2 (2=([D.t a,D.t
 b]).length/\2=2) (∀ c d,N<=d->Fresh N d c [D.ag [D.t a,D.t b]]->uP d (Q c [D.t a,D.t b] 2 0))) (w2 (0=0/\0=0) (∀ a
 b,N<=b->Fresh N b a [D.ag []]->uP b (Q a [] 0 (-1))))) (w2 (0=0/\0=0) (∀ a b,N<=b->Fresh N b a [D.ag []]->uP b (Q a
 [] 0 (-1)))))) (∃ a:Int,(x0.cell 0)=D.j a/\Br (a==9) (∃ a b,∃ c:Nat,(x0.cell 8)=D.sl a 9 b c/\Br ((b.length:Int)==1)
 (∃ a,(x0.cell 1)=D.t a/\∃ b,(x0.cell 2)=D.t b/\w2 (2=([D.t a,D.t b]).length/\2=2) (∀ c d,N<=d->Fresh N d c [D.ag
 [D.t a,D.t b]]->uP d (Q c [D.t a,D.t b] 2 0))) (w2 (0=0/\0=0) (∀ a b,N<=b->Fresh N b a [D.ag []]->uP b (Q a [] 0
 (-1))))) (w2 (0=0/\0=0) (∀ a b,N<=b->Fresh N b a [D.ag []]->uP b (Q a [] 0 (-1))))))):ksC 198 [.dg 9 x0] N Q:=
  eE H0 h
theorem DU N I e0 J O(Q:QT [.sl 0])(h :
Bel N (D.sl I 0 e0 J)->yY Q N I e0 J O 0 0 0 [] 0 N):ksC 203 [.sv I 0 e0 J,.str O] N Q:=
 eE sP h
theorem EW N I e0 J a1 e1 c1(Q:QT [.row 9 0])(h :
Bel N (D.sl I 0 e0 J)->Bel N (D.sl a1 0 e1 c1)->yi Q N I e0 J a1 e1 c1 0 0 0 [] 0 N):ksC 204 [.sv I 0 e0 J,.sv a1 0 e1 c1] N Q:=
 eE uJ h
theorem Hj N I(Q:QT [.sl 0])(h :
Bel N I->∃ n:Int,(I.cell 0)=D.j n/\Br (n==1) (∃ s,(I.cell 1)=D.t s/\w2 (1=([D.t s]).length/\1=1) (∀ a b,N<=b->Fresh N b a [D.ag
 [D.t s]]->uP b (Q a [D.t s] 1))) (∀ a,N<=a->ACalls prog 198 [.sl 0,.i] [.dg 9 I] a (λb c d e f=>a<=f->Bel f (D.sl b 0 c d) ->
 yG Q N b c d e 0 0 0 I [] 0 f))):ksC 199 [.dg 9 I] N Q:=
  eE tQ h
theorem FZ N n0(Q:QT [.str])(h :
Br (n0==0) (uP N (Q (bytes [48]))) (yz Q N n0 (decide (n0<0)) b0 N)):ksC 206 [.j n0] N Q:=
 eE qe h
theorem Fa N I e0 J(Q:QT [.str])(h :
Bel N (D.sl I 0 e0 J)->xv Q N I e0 J 1 N):ksC 205 [.sv I 0 e0 J] N Q:=
 eE qf h
theorem E1 N I(Q:QT [.ag 9])(h :
∀ a,N<=a->Q (D.ag [D.j 1,D.t I,D.t b0,D.j 0,D.j 0,D.sl none 2 [] 0,D.j 0,D.sl none 2 [] 0,D.sl none 9 [] 0]) a):ksC 141 [.str I] N Q:=
  eE H0 h
theorem u6 {Q:QT [.sl 0]}{N0 a0 e0 c0 O U Y I r0 J N}(h :
Br (decide (I<(e0.length:Int))) (ksL I e0/\∃ s,e0.getD I.toNat ksD=D.t s/\Br (!(ksE s O)) (ksL I e0/\∃ a,e0.getD I.toNat ksD=D.t a/\(U=r0.length/\Y=J)/\zA r0 [D.t a] 16
 /\ ∀(c:Nat),yY Q N0 a0 e0 c0 O (r0++[D.t a]).length c (ksW.wrap (I+1)) (r0++[D.t a]) c N) (yY Q N0 a0
 e0 c0 O U Y (ksW.wrap (I+1)) r0 J N)) (w3 (U=r0.length/\Y=J) (∀ a b,N<=b->Fresh N0 b a [D.ag r0]->uP b (Q a r0 J)))):yY Q N0 a0 e0 c0 O U Y I r0 J N:=
  hE sP h
theorem tn {Q:QT [.row 9 0]}{N0 Y e0 c0 a1 e1 c1 O J I r0 U N}(h :
Br (decide (I<(e0.length:Int))) (ksL I e0/\∃ s,e0.getD I.toNat ksD=D.t s/\(O=r0.length/\J=U)/\∀ a,
 ApA a r0->∀ b,N<=b->wm b [a]->ACalls prog 111 [.i] [.sv a 0 r0 J,.str s] b (λn a=>b<=a->Br (decide (n<0)) (ksL I e0/\∃ b,e0.getD I.toNat ksD=D.t b/\(O=r0.length/\J=U)/\zA r0 [D.t b] 16/\∀(c:Nat),yi Q N0 Y e0 c0
 a1 e1 c1 (r0++[D.t b]).length c (ksW.wrap (I+1)) (r0++[D.t b]) c a) (yi Q N0 Y e0 c0 a1 e1 c1 O J (ksW.wrap (I
 + 1)) r0 U a))) (yH Q N0 a1 e1 c1 O J 0 r0 U N)):yi Q N0 Y e0 c0 a1 e1 c1 O J I r0 U N:=
  hE uJ h
theorem rX {Q:QT [.sl 0]}{N0 a3 e3 c3 n4 U Y I J r1 O N}(h :
∃ a b,∃ c:Nat,(J.cell 8)=D.sl a 9 b c/\Br (decide (I<(b.length:Int))) (∃ a b,∃ c:Nat,(J.cell 8)=D.sl a 9 b c/\ksL I b/\kL 0 199 [.dg 9 (b.getD I.toNat ksD)] N (λa b c d=>y9 Q N0 a3 e3 c3 n4 U Y I a b
 c 0 J r1 O d)) (w3 (U=r1.length/\Y=O) (∀ a b,N<=b->Fresh N0 b a [D.ag r1]->uP b (Q a r1 O)))):yG Q N0 a3 e3 c3 n4 U Y I J r1 O N:=
  hE tQ h
theorem Cr {Q:QT [.str]}{N0 n0 b3 I N}(h :
Br (bne n0 0) ((10:Int)≠(0:Int)/\Br (decide (Int.tmod n0 10<0)) (1<=([D.lit (.int IntKind.u8 (IntKind.u8.wrap (ksW.wrap (48 +
 ksW.wrap (0 - Int.tmod n0 10)))))]).length/\∃ a:List Int,List.take 1 [D.lit (.int IntKind.u8 (IntKind.u8.wrap (ksW.wrap (48 +
 ksW.wrap (0 - Int.tmod n0 10)))))]=List.map (λn=>D.lit (.int IntKind.u8 n)) a/\(ByteArray.size (bytesOf a)+I.size:Nat) <=
 9223372036854775807/\(10:Int)≠(0:Int)/\yz Q N0 (ksW.wrap (Int.tdiv n0 10)) b3 (bytesOf a++I) N) (1<=([D.lit (.int
 IntKind.u8 (IntKind.u8.wrap (ksW.wrap (48+Int.tmod n0 10))))]).length/\∃ a:List Int,List.take 1 [D.lit (.int IntKind.u8 (IntKind.u8.wrap
 (ksW.wrap (48+Int.tmod n0 10))))]=List.map (λa=>D.lit (.int IntKind.u8 a)) a/\(ByteArray.size (bytesOf a)+I.size:Nat) <=
 9223372036854775807/\(10:Int)≠(0:Int)/\yz Q N0 (ksW.wrap (Int.tdiv n0 10)) b3 (bytesOf a++I) N)) (Br b3 ((1+I.size :
 Nat)<=9223372036854775807/\uP N (Q (bytes [45]++I))) (uP N (Q I)))):yz Q N0 n0 b3 I N:=
  hE qe h
theorem Cs {Q:QT [.str]}{N0 a0 e0 c0 n3 N}(h :
kS 206 [.j n3] N (fun s a=>(1+s.size:Nat)<=9223372036854775807/\∀ b,a<=b->ACalls prog 111 [.i] [.sv a0 0 e0 c0,.str (bytes [118]++s)] b
 (fun n a=>b<=a->Br (decide (n<0)) (uP a (Q (bytes [118]++s))) (xv Q N0 a0 e0 c0 (ksW.wrap (n3+1)) a)))):xv Q N0 a0 e0 c0 n3 N:=
  hE qf h
theorem tq {Q:QT [.row 9 0]}{N0 a1 e1 c1 m5 c5 n7 r0 q0 N}(h :
Br (decide (n7<(e1.length:Int))) (ksL n7 e1/\∃ s,e1.getD n7.toNat ksD=D.t s/\(m5=r0.length/\c5=q0)/\∀ a,
 ApA a r0->∀ b,N<=b->wm b [a]->ACalls prog 111 [.i] [.sv a 0 r0 c5,.str s] b (fun n a=>b<=a->Br (decide (n<0)) (ksL n7 e1/\∃ b,e1.getD n7.toNat ksD=D.t b/\(m5=r0.length/\c5=q0)/\zA r0 [D.t b] 16/\∀(c:Nat),yH Q N0 a1 e1 c1
 (r0++[D.t b]).length c (ksW.wrap (n7+1)) (r0++[D.t b]) c a) (yH Q N0 a1 e1 c1 m5 c5 (ksW.wrap (n7+1)) r0 q0 a)))
 ((m5=r0.length/\c5=q0)/\uP N (Q r0 c5))):yH Q N0 a1 e1 c1 m5 c5 n7 r0 q0 N:=
  hE uJ h
theorem sc {Q:QT [.sl 0]}{N0 a3 e3 c3 n4 m5 c5 n6 a7 e7 c7 n8 y0 r1 q1 N}(h :
Br (decide (n8<(e3.length:Int))) (Br (n6==n4) (ksL n8 e3/\∃ s,e3.getD n8.toNat ksD=D.t s/\kL 0 203 [.sv a7 0 e7
 c7,.str s] N (fun a b c d=>y9 Q N0 a3 e3 c3 n4 m5 c5 n6 a b c (ksW.wrap (n8+1)) y0 r1 q1 d)) ((m5=r1.length/\c5=q1)/\∀
 a,ApA a r1->Off [a] (D.sl a7 0 e7 c7)->∀ b,N<=b->wm b [a]->ACalls prog 204 [.row 9 0] [.sv a 0 r1 c5,.sv a7 0 e7 c7] b (fun c d e
 => b<=e->Off [a] (D.ag c)/\(Bel e (D.ag c)->yG Q N0 a3 e3 c3 n4 c.length d (ksW.wrap (n6+1)) y0 c d e))))
 ((m5=r1.length/\c5=q1)/\∀ a,ApA a r1->Off [a] (D.sl a7 0 e7 c7)->∀ b,N<=b->wm b [a]->ACalls prog 204 [.row 9 0] [.sv a 0 r1 c5,.sv
 a7 0 e7 c7] b (fun c d e=>b<=e->Off [a] (D.ag c)/\(Bel e (D.ag c)->yG Q N0 a3 e3 c3 n4 c.length d (ksW.wrap
 (n6+1)) y0 c d e)))):y9 Q N0 a3 e3 c3 n4 m5 c5 n6 a7 e7 c7 n8 y0 r1 q1 N:=
  hE tQ h
end Go.Proofs.YtlaniepnglheoaaGreat
