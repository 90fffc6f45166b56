/- Which parts of a body come late, one by one: lists of truth values; the reference and the program. -/
import Derived.Test.YtkdjhkfiolhkiaaGreatWp
import Derived.Test.YtkdjhkfiolhkiaaGreatWm
set_option linter.unusedVariables false
set_option linter.unusedSimpArgs false
namespace Go.Proofs.YtkdjhkfiolhkiaaGreat
open Go Go.Proofs Go.Proofs.Tryz Go.IntWalk
/-- a name and its number -/
abbrev Nb:=ByteArray × Int
def zNO (nm:ByteArray) (v:List Nb):Option Int:=(v.reverse.find? fun p=>decide (p.1=nm)).map (·.2)
theorem zNs {nm:ByteArray} {v:List Nb} {b:Nb}:zNO nm (v++[b])=if b.1=nm then some b.2 else zNO nm v:=by
 unfold zNO
 rw [List.reverse_append]
 by_cases h:b.1=nm<;>simp [h]
def red (n:Int):Int:=n % 10007
def bI (b:Bool):Int:=if b then 1 else 0
def zMM (t:Ty) (n:Int):Bool:=if t.k=2 then inB n 0 1 else inB n 0 10006
theorem zPp (b:Bool):0<=bI b/\bI b<=1:=by cases b<;>decide
theorem zPX (n:Int):0<=red n/\red n<=10006:=by unfold red;omega
/-- numbers for the names of a typing -/
structure Fit (v:List Nb) (g:List Tg):Prop where
 len:v.length=g.length
 at_:∀ (i:Nat) (x:Tg) (y:Nb),g[i]?=some x->v[i]?=some y->x.nm=y.1/\zMM x.ty y.2=true
theorem zOO {n:Int} {t:Ty} (ht:t.k=2) (h:zMM t n=true):n=0\/n=1:=by
 unfold zMM at h
 rw [if_pos ht,xl] at h
 omega
theorem zPJ {n:Int} {t:Ty} (h:0<=n/\n<=(if t.k=2 then 1 else 10006)):zMM t n=true:=by
 unfold zMM
 split at h<;>rename_i hk
 ·rw [if_pos hk,xl];omega
 ·rw [if_neg hk,xl];omega
def plN (p:Pl):Nb:=(p.1,p.2.1)
def zFt (l:List Int):List D:=l.map fun n=>.lit (.int .i64 n)
theorem zKr (l:List Int):(zFt l).length=l.length:=by simp [zFt]
end Go.Proofs.YtkdjhkfiolhkiaaGreat
