/- What is left of a body: what it is. -/
import Derived.Test.YtkdjhkfiolhkiaaGreatWc
import Derived.Test.YtkdjhkfiolhkiaaGreatWe
import Derived.Test.YtkdjhkfiolhkiaaGreatWx
set_option linter.unusedVariables false
set_option linter.unusedSimpArgs false
namespace Go.Proofs.YtkdjhkfiolhkiaaGreat
open Go Go.Proofs Go.Proofs.Tryz Go.IntWalk
def zPx (t:Ty) (n:Int):Tm:=.mk (if t.k=2 then 3 else 2) (bytes []) (bytes []) n (.mk 0 []) (.mk 0 []) []
/-- names, numbers and types in the part at a place -/
def wI (k:Int) (nm:ByteArray) (w:List Pl) (i:Nat):List Pl:=if i=0 then w else if k=8 then w++[(nm,0,true)] else w
def zPq:List Tm->List Tg->Ty
 | [],_=>tZero
 | x::_,g=>tyZ x g 0
def gI (k:Int) (nm:ByteArray) (l:List Tm) (g:List Tg) (i:Nat):List Tg:=if i=0 then g else if k=8 then g++[⟨nm,zPq l g,0⟩] else g
theorem zN2 (t:Ty):zMM t 0=true:=by unfold zMM;split<;>decide
/-- what specialization may count on -/
structure SpC (t:Tm) (w:List Pl) (g:List Tg):Prop where
 ok:t.ok=true
 b:t.isB=true
 pre:Pre g t 0
 ty:∃ u,t.type g 0=some u
 fit:Fit (w.map plN) g
theorem zPh {t:Tm} {g:List Tg} {n:Int} {u:Ty} (h:t.type g n=some u):tyZ t g n=u:=by simp [tyZ,h]
theorem zNt {k:Int} (h:zMv k=true):zr k 0=0:=by
 simp only [zMv,mO,xl,mH] at h
 unfold zr;rw [if_neg (by omega),if_neg (by omega)]
theorem zON (k n:Int):(Tm.mk k (bytes []) (bytes []) n (.mk 0 []) (.mk 0 []) []).Is (.ag [.lit (.int .i64 k),.lit (.string (bytes [])),.lit (.string (bytes [])),.lit (.int .i64 n),.lit (.int .i64 0),.sl none 2 [] 0,.lit (.int .i64 0),.sl none 2 [] 0,.sl none 9 [] 0]):=
 Tm.is_mk.2 ⟨_,_,_,_,_,_,_,rfl,⟨by decide,by decide,yv _,yv _⟩,by simp,rfl⟩
end Go.Proofs.YtkdjhkfiolhkiaaGreat
