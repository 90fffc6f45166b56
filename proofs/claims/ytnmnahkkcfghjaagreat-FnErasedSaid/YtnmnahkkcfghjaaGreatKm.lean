/- Printed by gen.py: what the functions come to. -/
import Derived.Test.YtnmnahkkcfghjaaGreatJh
set_option linter.unusedVariables false
set_option maxRecDepth 100000
namespace Go.Proofs.YtnmnahkkcfghjaaGreat
open Go Go.Proofs Go.Proofs.Tryz
def vJ:Hint:=⟨[hc 5 [1,2,3,4]],[],[(2,hs 6 [ec 4 [17]]),(7,[en 0,en 1,en 2,en 3,en 4,en 5,en 6,ec 7 [35],en 8,eh 9,en 10,eh 11])]⟩
def vE:Hint:=⟨[hc 5 [2,3,24,25,26]],[],[(2,hs 6 [ec 4 [18]]),(7,[en 0,en 1,en 2,ec 3 [32],en 4,eh 5,en 6,eh 7])]⟩
def wL:Hint:=⟨[hc 5 [1,2,3,4]],[],[(2,hs 6 [ec 4 [17]]),(3,[en 0,en 1,en 2,en 3,en 4,en 5,en 6,en 7,en 8,en 9,en 11,en 12,en 15,ec 10 [28],ec 13 [31],en 14,eh 16]),(7,[en 0,en 1,en 2,en 3,en 4,en 5,en 6,ec 7 [47],en 8,eh 9,en 10,eh 11])]⟩
def pj:Hint:=⟨[],[],[(2,hs 6 [ec 4 [16]]),(3,hs 4 [ec 1 [18]]),(4,[en 0,en 1,en 3,en 4,ec 2 [21],en 6,ec 5 [24],eh 7,en 8,eh 9])]⟩
def sU:Hint:=⟨[hc 3 [0,3,4] [(3,57,4)]],[],[(5,[en 0,en 1,en 2,en 3,en 4,en 5,en 6,en 7,en 8,en 9,en 10,ec 11 [22],en 12,en 13,eh 14,eh 15])]⟩
def rE:Hint:=⟨[hc 3 [3,7,8,9] [(3,57,4)]],[],[(5,[en 0,en 1,en 2,en 3,en 4,ec 5 [17],en 6,en 7,eh 8,eh 9])]⟩
def uN:Hint:=⟨[hc 3 [1,3,4]],[],[(5,hs 9 [ec 6 [21]])]⟩
def zA1:Hint:=⟨[hc 3 [1,5,13,14,15]],[],[(1,hs 5 [ec 2 [9]]),(5,hs 6 [ec 3 [20]])]⟩
def pa:Hint:=⟨[],[],[(1,hs 3 [ec 1 [3]])]⟩
def zDG:Hint:=⟨[],[],[(1,hs 4 [ec 1 [3]])]⟩
def zCO:Hint:=⟨[],[],[(1,hs 4 [ec 1 [3]])]⟩
def vz:Hint:=⟨[hc 3 [1,2,4,5,10,11,12] [(5,29,9)]],[],[(5,hs 7 [ec 3 [18]]),(7,hs 4 [ec 2 [23,24]])]⟩
def yx (Q:QT [.ag 2]) (N0:Nat) (n4:Int) (y0:D) (I:Int) (J:Option Addr) (O:List D) (U:Nat) (Y:Int) (aa:Option Addr) (ab:List D) (ac:Nat) (N:Nat):Prop:=AT prog 20 [.ag 2] Q N0 .ord (zE prog 20 5) ⟨an 1 (.pb 0 0 0 0::.pb 1 0 0 0::.pb 2 0 0 0::.int .i64 n4::an 36 []),[.vd y0 2,.var [.int .i64 I,.sv J 2 O U],.var [.int .i64 Y,.sv aa 2 ab ac]],N,none⟩
def xB (Q:QT [.ag 2]) (N0:Nat) (ae:Option Addr) (ah:List D) (ai:Nat) (aj ak I:Int) (J:Option Addr) (O:List D) (U:Nat) (Y:Int) (aa:Option Addr) (ab:List D) (ac:Nat) (N:Nat):Prop:=AT prog 29 [.ag 2] Q N0 .ord (zE prog 29 5) ⟨an 2 (.pb 0 0 0 0::.pb 1 0 0 0::an 20 (.sv ae 2 ah ai::.int .i64 aj::.int .i64 ak::an 12 [])),[.var [.int .i64 I,.sv J 2 O U],.var [.int .i64 Y,.sv aa 2 ab ac]],N,none⟩
def yB (Q:QT [.ag 9]) (N0:Nat) (n4:Int) (y0:D) (I:Int) (J O:ByteArray) (U Y:Int) (aa:Option Addr) (ab:List D) (ac:Nat) (ae:Int) (ah:Option Addr) (ai:List D) (aj:Nat) (ak:Option Addr) (al:List D) (am:Nat) (ao:Int) (aq au:ByteArray) (aw:Int) (ax ay az a2:D) (a3:Option Addr) (a4:List D) (a5:Nat) (N:Nat):Prop:=AT prog 9 [.ag 9] Q N0 .ord (zE prog 9 5) ⟨an 1 (.pb 0 0 0 0::.pb 1 0 0 0::.pb 2 0 0 0::.int .i64 n4::an 48 []),[.vd y0 9,.var [.int .i64 I,.str J,.str O,.int .i64 U,.int .i64 Y,.sv aa 2 ab ac,.int .i64 ae,.sv ah 2 ai aj,.sv ak 9 al am],.var [.int .i64 ao,.str aq,.str au,.int .i64 aw,.dc ax,.dc ay,.dc az,.dc a2,.sv a3 9 a4 a5]],N,none⟩
def xS (Q:QT [.sl 4]) (N0:Nat) (a0:Option Addr) (e0:List D) (c0 I J:Nat) (O:Int) (r0:List D) (U:Nat) (N:Nat):Prop:=AT prog 12 [.sl 4] Q N0 .ord (zE prog 12 3) ⟨.sv a0 4 e0 c0::an 2 (.sb 0 4 0 I J::.int .i64 O::an 23 []),[.arr 57 4 r0 U],N,none⟩
def xP (Q:QT [.sl 4]) (N0:Nat) (I J:Nat) (O:Option Addr) (U:List D) (Y:Nat) (n8 n9:Int) (r0:List D) (q0:Nat) (N:Nat):Prop:=AT prog 11 [.sl 4] Q N0 .ord (zE prog 11 3) ⟨an 3 (.sb 0 4 0 I J::an 3 (.sv O 4 U Y::.int .i64 n8::.int .i64 n9::an 14 [])),[.arr 57 4 r0 q0],N,none⟩
def yA (Q:QT [.int .i64]) (N0:Nat) (I J:Int) (O:D) (N:Nat):Prop:=AT prog 14 [.int .i64] Q N0 .ord (zE prog 14 3) ⟨an 1 (.pb 0 0 0 0::an 1 (.int .i64 I::.int .i64 J::an 20 [])),[.vd O 9],N,none⟩
def yN (Q:QT [.ag 2]) (N0:Nat) (n4:Int) (y0:D) (I:Int) (J:Option Addr) (O:List D) (U:Nat) (Y:Int) (aa ab:Nat) (r3:List D) (q3:Nat) (N:Nat):Prop:=AT prog 20 [.ag 2] Q N0 .ord (zE prog 20 5) ⟨an 1 (.pb 0 0 0 0::.pb 1 0 0 0::.pb 2 0 0 0::.int .i64 n4::an 36 []),[.vd y0 2,.var [.int .i64 I,.sv J 2 O U],.var [.int .i64 Y,.sb 3 2 0 aa ab],.arr 26 2 r3 q3],N,none⟩
def yP (Q:QT [.ag 2]) (N0:Nat) (ac:Option Addr) (ae:List D) (ah:Nat) (ai aj I:Int) (J:Option Addr) (O:List D) (U:Nat) (Y:Int) (aa ab:Nat) (r2:List D) (q2:Nat) (N:Nat):Prop:=AT prog 29 [.ag 2] Q N0 .ord (zE prog 29 5) ⟨an 2 (.pb 0 0 0 0::.pb 1 0 0 0::an 20 (.sv ac 2 ae ah::.int .i64 ai::.int .i64 aj::an 12 [])),[.var [.int .i64 I,.sv J 2 O U],.var [.int .i64 Y,.sb 2 2 0 aa ab],.arr 26 2 r2 q2],N,none⟩
def yD (Q:QT [.ag 9]) (N0:Nat) (n4:Int) (y0:D) (I:Int) (J O:ByteArray) (U Y:Int) (aa:Option Addr) (ab:List D) (ac:Nat) (ae:Int) (ah:Option Addr) (ai:List D) (aj:Nat) (ak:Option Addr) (al:List D) (am:Nat) (ao:Int) (aq au:ByteArray) (aw:Int) (ax ay az a2:D) (a3 a4:Nat) (r3:List D) (q3:Nat) (N:Nat):Prop:=AT prog 9 [.ag 9] Q N0 .ord (zE prog 9 5) ⟨an 1 (.pb 0 0 0 0::.pb 1 0 0 0::.pb 2 0 0 0::.int .i64 n4::an 48 []),[.vd y0 9,.var [.int .i64 I,.str J,.str O,.int .i64 U,.int .i64 Y,.sv aa 2 ab ac,.int .i64 ae,.sv ah 2 ai aj,.sv ak 9 al am],.var [.int .i64 ao,.str aq,.str au,.int .i64 aw,.dc ax,.dc ay,.dc az,.dc a2,.sb 3 9 0 a3 a4],.arr 29 9 r3 q3],N,none⟩
def yV (Q:QT [.ag 9]) (N0:Nat) (m5 c5:Nat) (ao:Option Addr) (aq:List D) (au:Nat) (aw ax:Int) (y0:D) (I:Int) (J O:ByteArray) (U Y:Int) (aa:Option Addr) (ab:List D) (ac:Nat) (ae:Int) (ah:Option Addr) (ai:List D) (aj:Nat) (ak:Option Addr) (al:List D) (am:Nat) (r2:List D) (q2:Nat) (N:Nat):Prop:=AT prog 28 [.ag 9] Q N0 .ord (zE prog 28 3) ⟨an 1 (.fn 6 []::.pb 0 0 0 0::an 1 (.pb 1 0 0 0::.sb 2 9 0 m5 c5::an 4 (.sv ao 9 aq au::.int .i64 aw::.int .i64 ax::an 13 []))),[.vd y0 9,.var [.int .i64 I,.str J,.str O,.int .i64 U,.int .i64 Y,.sv aa 2 ab ac,.int .i64 ae,.sv ah 2 ai aj,.sv ak 9 al am],.arr 29 9 r2 q2],N,none⟩
def xY (Q:QT [.int .i64]) (N0:Nat) (n5:Int) (I:Option Addr) (J:List D) (O:Nat) (U Y:Int) (N:Nat):Prop:=AT prog 32 [.int .i64] Q N0 .ord (zE prog 32 3) ⟨an 1 (.fn 33 []::an 3 (.int .i64 n5::an 7 (.sv I 9 J O::.int .i64 U::.int .i64 Y::an 10 []))),[],N,none⟩
theorem zBc (N:Nat) (I:D) (Q:QT [.ag 2]) (h :
Bel N I->∃ n:Int,(I.cell 0)=D.j n/\Br (n==4) (∃ a b,∃ c:Nat,(I.cell 1)=D.sl a 2 b c/\Br ((b.length:Int)==1) (∃ a b,∃ c :
 Nat,(I.cell 1)=D.sl a 2 b c/\((0:Int)<=(0:Int)/\0<(b.length:Int))/\kA 2 20 [.dg 2 (List.getD b 0 default)] N (λx a=>uP a (Q
 x))) (∃ a:Int,(I.cell 0)=D.j a/\yx Q N 0 I 0 none [] 0 a none [] 0 N)) (∃ a:Int,(I.cell 0)=D.j a/\yx Q
 N 0 I 0 none [] 0 a none [] 0 N)):ACalls prog 20 [.ag 2] [PV.dg 2 I] N Q:=
  eE vJ h
theorem zBY (N:Nat) (I:D) (Q:QT [.ag 2]) (h :
Bel N I->∃ n:Int,(I.cell 0)=D.j n/\Br (n==4) (∃ a b,∃ c:Nat,(I.cell 1)=D.sl a 2 b c/\Br ((b.length:Int)==1) (∃ a b,∃ c :
 Nat,(I.cell 1)=D.sl a 2 b c/\((0:Int)<=(0:Int)/\0<(b.length:Int))/\kA 2 29 [.dg 2 (List.getD b 0 default)] N (λx a=>uP a (Q
 x))) (∃ a:Int,(I.cell 0)=D.j a/\∃ b c,∃ d:Nat,(I.cell 1)=D.sl b 2 c d/\xB Q N b c d (c.length:Int)
 0 0 none [] 0 a none [] 0 N)) (∃ a:Int,(I.cell 0)=D.j a/\∃ b c,∃ d:Nat,(I.cell 1)=D.sl b 2 c d/\xB Q N b
 c d (c.length:Int) 0 0 none [] 0 a none [] 0 N)):ACalls prog 29 [.ag 2] [PV.dg 2 I] N Q:=
  eE vE h
theorem px (N:Nat) (x0:D) (Q:QT [.ag 9]) (h :
Bel N x0->∃ n:Int,(x0.cell 0)=D.j n/\kB 31 [.j n,.j 10,.j 13] N (fun b d=>Br b (∃ a b,∃ c:Nat,(x0.cell 8)=D.sl a 9 b c/\Br ((b.length
 : Int)==1) (∃ a b,∃ c:Nat,(x0.cell 8)=D.sl a 9 b c/\((0:Int)<=(0:Int)/\0<(b.length:Int))/\kA 9 9 [.dg 9 (List.getD b 0
 default)] d (fun x a=>uP a (Q x))) (∃ a:Int,(x0.cell 0)=D.j a/\∃ s,(x0.cell 1)=D.t s/\∃ b,(x0.cell 2)=D.t b/\∃ c:Int,(x0.cell 3)
 = D.j c/\kA 2 20 [.dg 2 (D.sub x0 4 2)] d (fun d e=>kA 2 20 [.dg 2 (D.sub x0 6 2)] e (fun e f=>yB Q N 0 x0 0 b0 b0 0 0 none []
 0 0 none [] 0 none [] 0 a s b c (d.cell 0) (d.cell 1) (e.cell 0) (e.cell 1) none [] 0 f)))) (∃ a:Int,(x0.cell 0)=D.j a/\∃ b,(x0.cell
 1)=D.t b/\∃ c,(x0.cell 2)=D.t c/\∃ e:Int,(x0.cell 3)=D.j e/\kA 2 20 [.dg 2 (D.sub x0 4 2)] d (fun d f=>kA 2 20 [.dg 2 (D.sub x0 6
 2)] f (fun f g=>yB Q N 0 x0 0 b0 b0 0 0 none [] 0 0 none [] 0 none [] 0 a b c e (d.cell 0) (d.cell 1) (f.cell 0)
 (f.cell 1) none [] 0 g))))):ACalls prog 9 [.ag 9] [PV.dg 9 x0] N Q:=
  eE wL h
theorem zDY (N:Nat) (n0:Int) (Q:QT [.bool]) (h :
kB 56 [.j n0,.j 10,.j 13] N (λb a=>uP a (Q b))):ACalls prog 27 [.bool] [PV.int .i64 n0] N Q:=
 eE H0 h
theorem pH (N:Nat) (I:D) (Q:QT [.ag 9]) (h :
Bel N I->∃ n:Int,(I.cell 0)=D.j n/\kB 27 [.j n] N (λb d=>Br b (∃ a b,∃ c:Nat,(I.cell 8)=D.sl a 9 b c/\Br ((b.length:Int)==1)
 (∃ a b,∃ c:Nat,(I.cell 8)=D.sl a 9 b c/\((0:Int)<=(0:Int)/\0<(b.length:Int))/\kA 9 6 [.dg 9 (List.getD b 0 default)] d
 (λx a=>uP a (Q x))) (kA 9 28 [.dg 9 I,.fn 6 []] d (λa b=>kA 2 29 [.dg 2 (D.sub I 4 2)] b (λb c=>kA 2 29 [.dg 2 (D.sub I 6 2)] c
 (λc d=>uP d (Q (D.ag [(a.cell 0),(a.cell 1),(a.cell 2),(a.cell 3),(b.cell 0),(b.cell 1),(c.cell 0),(c.cell 1),(a.cell
 8)]))))))) (kA 9 28 [.dg 9 I,.fn 6 []] d (λa b=>kA 2 29 [.dg 2 (D.sub I 4 2)] b (λb c=>kA 2 29 [.dg 2 (D.sub I 6 2)] c (λc d
 => uP d (Q (D.ag [(a.cell 0),(a.cell 1),(a.cell 2),(a.cell 3),(b.cell 0),(b.cell 1),(c.cell 0),(c.cell 1),(a.cell 8)])))))))):ACalls prog 6 [.ag 9] [PV.dg 9 I] N Q:=
  eE pj h
theorem zB5 (N:Nat) (a0:Option Addr) (e0:List D) (c0:Nat) (Q:QT [.sl 4]) (h :
Bel N (D.sl a0 4 e0 c0)->xS Q N a0 e0 c0 0 0 0 [] 0 N):ACalls prog 12 [.sl 4] [PV.sv a0 4 e0 c0] N Q:=
 eE sU h
theorem zCg (N:Nat) (a0:Option Addr) (e0:List D) (c0:Nat) (Q:QT [.sl 4]) (h :
Bel N (D.sl a0 4 e0 c0)->xP Q N 0 0 a0 e0 c0 (e0.length:Int) 0 [] 0 N):ACalls prog 11 [.sl 4] [PV.sv a0 4 e0 c0] N Q:=
 eE rE h
theorem qm (N:Nat) (I:D) (Q:QT [.int .i64]) (h :
Bel N I->∃ n:Int,(I.cell 0)=D.j n/\kB 31 [.j n,.j 10,.j 13] N (λb a=>kI 34 [.bool b] a (λa b=>yA Q N a 0 I
 b))):ACalls prog 14 [.int .i64] [PV.dg 9 I] N Q:=
  eE uN h
theorem ro (N:Nat) (I:D) (Q:QT [.bool]) (h :
Bel N I->∃ n:Int,(I.cell 0)=D.j n/\kB 27 [.j n] N (λb a=>uP a (Q b))):ACalls prog 33 [.bool] [PV.dg 9 I] N Q:=
 eE H0 h
theorem qj (N:Nat) (I:D) (Q:QT [.int .i64]) (h :
Bel N I->kI 32 [.dg 9 I,.fn 33 []] N (λn a=>uP a (Q n))):ACalls prog 13 [.int .i64] [PV.dg 9 I] N Q:=
 eE pa h
theorem zCq (N:Nat) (I:D) (Q:QT [.bool]) (h :
Bel N I->kI 14 [.dg 9 I] N (λn a=>uP a (Q (decide (n>0))))):ACalls prog 16 [.bool] [PV.dg 9 I] N Q:=
 eE zDG h
theorem zB6 (N:Nat) (I:D) (Q:QT [.bool]) (h :
Bel N I->kI 13 [.dg 9 I] N (λn a=>uP a (Q (decide (n>0))))):ACalls prog 15 [.bool] [PV.dg 9 I] N Q:=
 eE zCO h
theorem ua (Q:QT [.ag 2]) (N0:Nat) (n4:Int) (y0:D) (Y:Int) (aa:Option Addr) (ab:List D) (ac:Nat) (J:Int) (O:Option Addr) (I:List D) (U:Nat) (N:Nat) (h :
∃ a b,∃ c:Nat,(y0.cell 1)=D.sl a 2 b c/\Br (decide (n4<(b.length:Int))) (∃ a b,∃ c:Nat,(y0.cell 1)=D.sl a 2 b c/\(0<=n4
 /\ n4<(b.length:Int))/\kA 2 20 [.dg 2 (List.getD b n4.toNat default)] N (λx a=>zLT O I U [x]/\zA I [x] 32/\∀ (b:Nat),
 yN Q N0 (IntKind.i64.wrap (n4+1)) y0 Y aa ab ac J (I++[x]).length b (I++[x]) b a)) (uP N (Q (D.ag [D.j J,
 D.sl O 2 I U])))):yx Q N0 n4 y0 Y aa ab ac J O I U N:=
  hE vJ h
theorem uK (Q:QT [.ag 2]) (N0:Nat) (aj:Option Addr) (aa:List D) (ak:Nat) (ai J ab:Int) (ac:Option Addr) (ae:List D) (ah:Nat) (O:Int) (U:Option Addr) (I:List D) (Y:Nat) (N:Nat) (h :
Br (decide (J<ai)) ((0<=J/\J<(aa.length:Int))/\kA 2 29 [.dg 2 (List.getD aa J.toNat default)] N (λx a=>zLT U I Y [x] /\
 zA I [x] 32/\∀ (c:Nat),yP Q N0 aj aa ak ai (IntKind.i64.wrap (J+1)) ab ac ae ah O (I++[x]).length c (I
 ++ [x]) c a)) (uP N (Q (D.ag [D.j O,D.sl U 2 I Y])))):xB Q N0 aj aa ak ai J ab ac ae ah O U I Y N:=
  hE vE h
theorem vN (Q:QT [.ag 9]) (N0:Nat) (n4:Int) (y0:D) (aj:Int) (ak al:ByteArray) (am ao:Int) (aq:Option Addr) (au:List D) (aw:Nat) (ax:Int) (ay:Option Addr) (az:List D) (a2:Nat) (a3:Option Addr) (a4:List D) (a5:Nat) (J:Int) (O U:ByteArray) (Y:Int) (aa ab ac ae:D) (ah:Option Addr) (I:List D) (ai:Nat) (N:Nat) (h :
∃ a b,∃ c:Nat,(y0.cell 8)=D.sl a 9 b c/\Br (decide (n4<(b.length:Int))) (∃ a b,∃ c:Nat,(y0.cell 8)=D.sl a 9 b c/\(0<=n4
 /\ n4<(b.length:Int))/\kA 9 9 [.dg 9 (List.getD b n4.toNat default)] N (λx a=>zLT ah I ai [x]/\zA I [x] 136/\∀ (b:Nat),
 yD Q N0 (IntKind.i64.wrap (n4+1)) y0 aj ak al am ao aq au aw ax ay az a2 a3 a4 a5 J O U Y aa
 ab ac ae (I++[x]).length b (I++[x]) b a)) (uP N (Q (D.ag [D.j J,D.t O,D.t U,D.j Y,aa,ab,ac,ae,D.sl ah 9 I
 ai])))):yB Q N0 n4 y0 aj ak al am ao aq au aw ax ay az a2 a3 a4 a5 J O U Y aa ab ac ae ah I ai N:=
  hE wL h
theorem sO (N:Nat) (I:D) (Q:QT [.ag 9]) (h :
Bel N I->∃ a b,∃ c:Nat,(I.cell 8)=D.sl a 9 b c/\yV Q N 0 0 a b c (b.length:Int) 0 I 0 b0 b0 0 0 none [] 0 0 none [] 0
 none [] 0 [] 0 N):ACalls prog 28 [.ag 9] [.dg 9 I,.fn 6 []] N Q:=
  eE vz h
theorem tA (Q:QT [.sl 4]) (N0:Nat) (a0:Option Addr) (e0:List D) (c0 O U:Nat) (I:Int) (r0:List D) (J:Nat) (N:Nat) (h :
Br (decide (I<(e0.length:Int))) ((0<=I/\I<(e0.length:Int))/\∃ s,(if 0=0 then D.cell (List.getD e0 I.toNat default) 0 else D.sub
 (List.getD e0 I.toNat default) 0 0)=D.t s/\(0<=I/\I<(e0.length:Int))/\kA 2 20 [.dg 2 (if 2=0 then D.cell (List.getD e0 I.toNat default) 1 else
 D.sub (List.getD e0 I.toNat default) 1 2)] N (λx a=>(O=r0.length/\U=J)/\zA r0 [D.ag [D.t s,(x.cell 0),(x.cell 1),D.j 0]] 56/\∀ (c :
 Nat),xS Q N0 a0 e0 c0 (r0++[D.ag [D.t s,(x.cell 0),(x.cell 1),D.j 0]]).length c (IntKind.i64.wrap (I+1)) (r0++[D.ag [D.t s,(x.cell
 0),(x.cell 1),D.j 0]]) c a)) (w3 (O=r0.length/\U=J) (∀ a b,N<=b->Fresh N0 b a [D.ag r0]->uP b (Q a r0 J)))):xS Q N0 a0 e0 c0 O U I r0 J N:=
  hE sU h
theorem tG (Q:QT [.sl 4]) (N0:Nat) (U Y:Nat) (a7:Option Addr) (J:List D) (c7:Nat) (n8 I:Int) (r0:List D) (O:Nat) (N:Nat) (h :
Br (decide (I<n8)) ((0<=I/\I<(J.length:Int))/\∃ s,D.cell (List.getD J I.toNat default) 0=D.t s/\kA 2 29 [.dg 2 (D.sub (List.getD J
 I.toNat default) 1 2)] N (λx a=>(U=r0.length/\Y=O)/\zA r0 [D.ag [D.t s,(x.cell 0),(x.cell 1),D.j 0]] 56/\∀ (c:Nat),xP
 Q N0 (r0++[D.ag [D.t s,(x.cell 0),(x.cell 1),D.j 0]]).length c a7 J c7 n8 (IntKind.i64.wrap (I+1)) (r0++[D.ag [D.t s,(x.cell 0),(x.cell 1),D.j
 0]]) c a)) (w3 (U=r0.length/\Y=O) (∀ a b,N<=b->Fresh N0 b a [D.ag r0]->uP b (Q a r0 O)))):xP Q N0 U Y a7 J c7 n8 I r0 O N:=
  hE rE h
theorem vV (Q:QT [.int .i64]) (N0:Nat) (n3 n4:Int) (y0:D) (N:Nat) (h :
∃ a b,∃ c:Nat,(y0.cell 8)=D.sl a 9 b c/\Br (decide (n4<(b.length:Int))) (∃ a b,∃ c:Nat,(y0.cell 8)=D.sl a 9 b c/\(0<=n4
 /\ n4<(b.length:Int))/\kI 14 [.dg 9 (List.getD b n4.toNat default)] N (fun n a=>yA Q N0 (IntKind.i64.wrap (n3+n))
 (IntKind.i64.wrap (n4+1)) y0 a)) (uP N (Q n3))):yA Q N0 n3 n4 y0 N:=
  hE uN h
theorem zC2 (N:Nat) (x0:D) (Q:QT [.int .i64]) (h :
Bel N x0->kB 33 [.dg 9 x0] N (fun b d=>kI 58 [.bool b] d (fun n b=>∃ a d,∃ c:Nat,(x0.cell 8)=D.sl a 9 d c/\xY Q N n a d c
 (d.length:Int) 0 b))):ACalls prog 32 [.int .i64] [.dg 9 x0,.fn 33 []] N Q:=
  eE zA1 h
theorem vD (Q:QT [.ag 2]) (N0:Nat) (n4:Int) (y0:D) (U:Int) (Y:Option Addr) (aa:List D) (ab:Nat) (I:Int) (J O:Nat) (r3:List D) (q3:Nat) (N:Nat) (h :
∃ a b,∃ c:Nat,(y0.cell 1)=D.sl a 2 b c/\Br (decide (n4<(b.length:Int))) (∃ a b,∃ c:Nat,(y0.cell 1)=D.sl a 2 b c/\(0<=n4
 /\ n4<(b.length:Int))/\kA 2 20 [.dg 2 (List.getD b n4.toNat default)] N (λx a=>(J=r3.length/\O=q3)/\zA r3 [x] 32/\∀ (b :
 Nat),yN Q N0 (IntKind.i64.wrap (n4+1)) y0 U Y aa ab I (r3++[x]).length b (r3++[x]) b a)) (w3 (J=r3.length /\
 O=q3) (∀ a b,N<=b->Fresh N0 b a [D.ag r3]->uP b (Q (D.ag [D.j I,D.sl a 2 r3 q3]))))):yN Q N0 n4 y0 U Y aa ab I J O r3 q3 N:=
  hE vJ h
theorem w8 (Q:QT [.ag 2]) (N0:Nat) (ai:Option Addr) (Y:List D) (aj:Nat) (ah I aa:Int) (ab:Option Addr) (ac:List D) (ae:Nat) (J:Int) (O U:Nat) (r2:List D) (q2:Nat) (N:Nat) (h :
Br (decide (I<ah)) ((0<=I/\I<(Y.length:Int))/\kA 2 29 [.dg 2 (List.getD Y I.toNat default)] N (λx a=>(O=r2.length/\U =
 q2)/\zA r2 [x] 32/\∀ (c:Nat),yP Q N0 ai Y aj ah (IntKind.i64.wrap (I+1)) aa ab ac ae J (r2++[x]).length c (r2
 ++ [x]) c a)) (w3 (O=r2.length/\U=q2) (∀ a b,N<=b->Fresh N0 b a [D.ag r2]->uP b (Q (D.ag [D.j J,D.sl a 2 r2 q2]))))):yP Q N0 ai Y aj ah I aa ab ac ae J O U r2 q2 N:=
  hE vE h
theorem wR (Q:QT [.ag 9]) (N0:Nat) (n4:Int) (y0:D) (ai:Int) (aj ak:ByteArray) (al am:Int) (ao:Option Addr) (aq:List D) (au:Nat) (aw:Int) (ax:Option Addr) (ay:List D) (az:Nat) (a2:Option Addr) (a3:List D) (a4:Nat) (Y:Int) (aa ab:ByteArray) (ac:Int) (I J O U:D) (ae ah:Nat) (r3:List D) (q3:Nat) (N:Nat) (h :
∃ a b,∃ c:Nat,(y0.cell 8)=D.sl a 9 b c/\Br (decide (n4<(b.length:Int))) (∃ a b,∃ c:Nat,(y0.cell 8)=D.sl a 9 b c/\(0<=n4
 /\ n4<(b.length:Int))/\kA 9 9 [.dg 9 (List.getD b n4.toNat default)] N (λx a=>(ae=r3.length/\ah=q3)/\zA r3 [x] 136/\∀ (b :
 Nat),yD Q N0 (IntKind.i64.wrap (n4+1)) y0 ai aj ak al am ao aq au aw ax ay az a2 a3 a4 Y aa ab ac
 I J O U (r3++[x]).length b (r3++[x]) b a)) (w3 (ae=r3.length/\ah=q3) (∀ a b,N<=b->Fresh N0 b a [D.ag r3,I,J,
 O,U]->uP b (Q (D.ag [D.j Y,D.t aa,D.t ab,D.j ac,I,J,O,U,D.sl a 9 r3 q3]))))):yD Q N0 n4 y0 ai aj ak al am ao aq au aw ax ay az a2 a3 a4 Y aa ab ac I J O U ae ah r3 q3 N:=
  hE wL h
theorem vQ (Q:QT [.ag 9]) (N0:Nat) (m5 c5:Nat) (a10:Option Addr) (e10:List D) (c10:Nat) (n11 n12:Int) (y0:D) (n1_0:Int) (s1_1 s1_2:ByteArray) (n1_3 n1_4:Int) (a1_5:Option Addr) (e1_5:List D) (c1_5:Nat) (n1_6:Int) (a1_7:Option Addr) (e1_7:List D) (c1_7:Nat) (a1_8:Option Addr) (e1_8:List D) (c1_8:Nat) (r2:List D) (q2:Nat) (N:Nat) (h :
Br (decide (n12<n11)) ((0<=n12/\n12<(e10.length:Int))/\kA 9 6 [.dg 9 (List.getD e10 n12.toNat default)] N (fun x a=>(m5=r2.length/\c5=q2)
 /\ zA r2 [x] 136/\∀ (c:Nat),yV Q N0 (r2++[x]).length c a10 e10 c10 n11 (IntKind.i64.wrap (n12+1)) y0 n1_0 s1_1 s1_2 n1_3 n1_4 a1_5
 e1_5 c1_5 n1_6 a1_7 e1_7 c1_7 a1_8 e1_8 c1_8 (r2++[x]) c a)) (w2 (m5=r2.length/\c5=q2) (∀ a b,N<=b->Fresh N0 b a [D.ag r2]->∀ c,b<=c ->
 ACalls prog 57 [.pk,.i,.str,.str,.i,.dc,.dc,.dc,.dc,Sh.bk 1] [.dg 9 y0,.sv a 9 r2 q2] c (fun n s a b d e f g h i=>c<=i->uP i (Q
 (D.ag [D.j n,D.t s,D.t a,D.j b,d,e,f,g,h])))))):yV Q N0 m5 c5 a10 e10 c10 n11 n12 y0 n1_0 s1_1 s1_2 n1_3 n1_4 a1_5 e1_5 c1_5 n1_6 a1_7 e1_7 c1_7 a1_8 e1_8 c1_8 r2 q2 N:=
  hE vz h
theorem rq (Q:QT [.int .i64]) (N0:Nat) (n5:Int) (U:Option Addr) (J:List D) (Y:Nat) (O I:Int) (N:Nat) (h :
Br (decide (I<O)) ((0<=I/\I<(J.length:Int))/\kI 32 [.dg 9 (List.getD J I.toNat default),.fn 33 []] N (λn a=>xY Q
 N0 (IntKind.i64.wrap (n5+n)) U J Y O (IntKind.i64.wrap (I+1)) a)) (uP N (Q n5))):xY Q N0 n5 U J Y O I N:=
  hE zA1 h
end Go.Proofs.YtnmnahkkcfghjaaGreat
