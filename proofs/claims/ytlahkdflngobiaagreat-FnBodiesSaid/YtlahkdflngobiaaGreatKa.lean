/- Printed by gen.py: what the functions come to. -/
import Derived.Test.YtlahkdflngobiaaGreatJh
set_option linter.unusedVariables false
set_option maxRecDepth 100000
namespace Go.Proofs.YtlahkdflngobiaaGreat
open Go Go.Proofs Go.Proofs.Tryz
end Go.Proofs.YtlahkdflngobiaaGreat
set_option maxRecDepth 100000
namespace Go.Proofs.YtlahkdflngobiaaGreat
open Go Go.Proofs Go.Proofs.Tryz
end Go.Proofs.YtlahkdflngobiaaGreat
set_option maxRecDepth 100000
namespace Go.Proofs.YtlahkdflngobiaaGreat
open Go Go.Proofs Go.Proofs.Tryz
end Go.Proofs.YtlahkdflngobiaaGreat
set_option maxRecDepth 100000
namespace Go.Proofs.YtlahkdflngobiaaGreat
open Go Go.Proofs Go.Proofs.Tryz
end Go.Proofs.YtlahkdflngobiaaGreat
set_option maxRecDepth 100000
namespace Go.Proofs.YtlahkdflngobiaaGreat
open Go Go.Proofs Go.Proofs.Tryz
end Go.Proofs.YtlahkdflngobiaaGreat
set_option maxRecDepth 100000
namespace Go.Proofs.YtlahkdflngobiaaGreat
open Go Go.Proofs Go.Proofs.Tryz
end Go.Proofs.YtlahkdflngobiaaGreat
set_option maxRecDepth 100000
namespace Go.Proofs.YtlahkdflngobiaaGreat
open Go Go.Proofs Go.Proofs.Tryz
def zBs:Hint:=⟨[],[],[(1,[en 0,en 2,en 3,eh 1,eh 4,en 5])]⟩
theorem uT (N:Nat) (I:Option Addr) (e0:List D) (J:Nat) (Q:QT [.row 65 3]) (h :
Bel N (D.sl I 3 e0 J)->Br (Option.isNone I) (uP N (Q [] 0)) ((0=0/\0=0)/\zA [] e0 32/\∀ (c:Nat),(([]++e0).length=([]++e0).length /\
 c=c)/\uP N (Q ([]++e0) c))):ACalls prog 75 [.row 65 3] [PV.sv I 3 e0 J] N Q:=
  eE H0 h
theorem zCO (N:Nat) (J:Option Addr) (e0:List D) (O:Nat) (I:D) (Q:QT [.sl 3]) (h :
Bel N (D.sl J 3 e0 O)->Bel N I->∀ b,N<=b->ACalls prog 75 [.row 65 3] [.sv J 3 e0 O] b (λc d e=>b<=e->Bel e (D.ag c)->(c.length
 = c.length/\d=d)/\zA c [I] 32/\∀ (b:Nat),w2 ((c++[I]).length=(c++[I]).length/\b=b) (∀ a d,e<=d->Fresh N d a [D.ag (c
 ++ [I])]->uP d (Q a (c++[I]) b)))):ACalls prog 31 [.sl 3] [PV.sv J 3 e0 O,PV.dg 3 I] N Q:=
  eE zBs h
end Go.Proofs.YtlahkdflngobiaaGreat
set_option maxRecDepth 100000
namespace Go.Proofs.YtlahkdflngobiaaGreat
open Go Go.Proofs Go.Proofs.Tryz
theorem zB7 (N:Nat) (x0:D) (Q:QT [.bool]) (h :
Bel N x0->∃ n:Int,(x0.cell 0)=D.j n/\kB 38 [.j n,.j 1,.j 5] N (fun b a=>Br b (uP a (Q true)) (∃ b:Int,(x0.cell 0)=D.j b/\uP a (Q
 (b==8))))):ACalls prog 37 [.bool] [PV.dg 9 x0] N Q:=
  eE H0 h
end Go.Proofs.YtlahkdflngobiaaGreat
