/- Types: the reference's functions. -/
import Derived.Test.YtfkmegifjiiclaaGreatVa
import Derived.Test.YtfkmegifjiiclaaGreatKs
set_option linter.unusedVariables false
set_option linter.unusedSimpArgs false
namespace Go.Proofs.YtfkmegifjiiclaaGreat
open Go Go.Proofs Go.Proofs.Tryz Go.IntWalk

def inB (n a b : Int) : Bool := decide (a ≤ n) && decide (n ≤ b)
theorem xm (n a b : Int) : wS 113 [.int .i64 n, .int .i64 a, .int .i64 b] (inB n a b) := fun N Q hQ => by
 refine zJZ N n a b Q ?_
 repeat' first|with_reducible intro _|simp only[Y1,Y2,Y3,Y4]|(with_reducible first|refine X1 ?_ ?_|refine X2 ?_ ?_|refine X3 ?_ ?_|refine X4 ?_ ?_|refine X5 ?_ ?_|refine X6 ?_ ?_|refine X7 ?_ ?_|refine X8 ?_ ?_|refine X9 ?_ ?_)|refine⟨_,_,_,rfl,?_⟩|refine⟨_,rfl,?_⟩|((with_reducible refine And.intro ?_ ?_);·first|omega|trivial|(show _=_;rfl)|((with_reducible refine And.intro ?_ ?_)<;>first|omega|trivial|(show _=_;rfl)))|fail
 all_goals simpa [inB, *] using hQ _ (by omega)
theorem zBQ (a b : Int) : tf 174 [.int .i64 a, .int .i64 b] (max a b) := fun N Q hQ => by
 refine zIk N a b Q ?_
 repeat' first|with_reducible intro _|simp only[Y1,Y2,Y3,Y4]|(with_reducible first|refine X1 ?_ ?_|refine X2 ?_ ?_|refine X3 ?_ ?_|refine X4 ?_ ?_|refine X5 ?_ ?_|refine X6 ?_ ?_|refine X7 ?_ ?_|refine X8 ?_ ?_|refine X9 ?_ ?_)|refine⟨_,_,_,rfl,?_⟩|refine⟨_,rfl,?_⟩|((with_reducible refine And.intro ?_ ?_);·first|omega|trivial|(show _=_;rfl)|((with_reducible refine And.intro ?_ ?_)<;>first|omega|trivial|(show _=_;rfl)))|fail
 ·have := hQ _ (by assumption)
  rwa [Int.max_eq_left (by omega)] at this
 ·have := hQ _ (by assumption)
  rwa [Int.max_eq_right (by omega)] at this

mutual
def Ty.dep : Ty → Nat
 | .mk _ l => ud l + 1
def ud : List Ty → Nat
 | [] => 0
 | t :: ts => max t.dep (ud ts)
end
mutual
theorem Ty.dep_cnt : ∀ t : Ty, t.dep ≤ t.cnt
 | .mk _ l => by simp only [Ty.dep, Ty.cnt]; have := rZ l; omega
theorem rZ : ∀ l : List Ty, ud l ≤ zH l
 | [] => Nat.le_refl _
 | t :: ts => by simp only [ud, zH]; have := t.dep_cnt; have := rZ ts; omega
end
theorem xn : ∀ {l : List Ty} {t : Ty}, t ∈ l → t.cnt ≤ zH l
 | u :: us, t, h => by
   simp only [zH]
   rcases List.mem_cons.1 h with rfl | h
   ·omega
   ·have := xn h; omega
def rr (k : Int) (n : Nat) : Bool := if k = 1 ∨ k = 2 then (n : Int) == 0 else if k = 3 then (n : Int) == 2 else if k = 4 then (n : Int) == 1 else false
mutual
def Ty.form : Ty → Bool
 | .mk k l => uV l && rr k l.length
def uV : List Ty → Bool
 | [] => true
 | t :: ts => t.form && uV ts
end
def Ty.valid (t : Ty) : Bool := decide (t.cnt ≤ 30) && decide (t.dep ≤ 8) && t.form

theorem pm : ∀ (t : Ty) (d : D), t.Is d → ∀ n : Int, 0 ≤ n → n ≤ 1000 → tf 183 [.dg 2 d, .int .i64 n] (if (t.cnt : Int) ≤ n then n - t.cnt else -1) := by
 refine Ty.ind fun k l ih d hd n hn0 hn1 N Q hQ => ?_
 obtain ⟨a, es, c, rfl, hlen, hes⟩ := Ty.is_mk.1 hd
 refine zFx N _ n Q fun _ => ?_
 have key := up hes hlen (fun i xs => ∀ (m : Int) (N' : Nat), N ≤ N' → -1 ≤ m → m ≤ 1000 → (∀ N'', N' ≤ N'' → Q (if m < 0 then -1 else if (zH xs : Int) ≤ m then m - zH xs else -1) N'') →
  x8 Q N m i (.ag [.lit (.int .i64 k), .sl a 2 es c]) N') ?_ ?_
 ·rw [i64_in _ (by omega)]
  refine key (n - 1) N (Nat.le_refl _) (by omega) (by omega) fun N' hN' => Qi (hQ N' hN') ?_
  simp only [Ty.cnt]
  (repeat' split) <;> omega
 ·intro i hlt _ m N' hN' h1 h2 hQ'
  refine rT _ _ _ _ _ _ ?_
  repeat' first|with_reducible intro _|simp only[hlt,Y1,Y2,Y3,Y4]|(with_reducible first|refine X1 ?_ ?_|refine X2 ?_ ?_|refine X3 ?_ ?_|refine X4 ?_ ?_|refine X5 ?_ ?_|refine X6 ?_ ?_|refine X7 ?_ ?_|refine X8 ?_ ?_|refine X9 ?_ ?_)|refine⟨_,_,_,rfl,?_⟩|refine⟨_,rfl,?_⟩|((with_reducible refine And.intro ?_ ?_);·first|omega|trivial|(show _=_;rfl)|((with_reducible refine And.intro ?_ ?_)<;>first|omega|trivial|(show _=_;rfl)))|fail
  refine Qi (hQ' _ (by assumption)) ?_
  simp only [zH]
  (repeat' split) <;> omega
 ·intro i x xs hat _ ih2 m N' hN' h1 h2 hQ'
  have hb := hat.b
  refine rT _ _ _ _ _ _ ?_
  repeat' first|with_reducible intro _|simp only[hat.lt, hat.w, Int.toNat_natCast,Y1,Y2,Y3,Y4]|(with_reducible first|refine X1 ?_ ?_|refine X2 ?_ ?_|refine X3 ?_ ?_|refine X4 ?_ ?_|refine X5 ?_ ?_|refine X6 ?_ ?_|refine X7 ?_ ?_|refine X8 ?_ ?_|refine X9 ?_ ?_)|refine⟨_,_,_,rfl,?_⟩|refine⟨_,rfl,?_⟩|((with_reducible refine And.intro ?_ ?_);·first|omega|trivial|(show _=_;rfl)|((with_reducible refine And.intro ?_ ?_)<;>first|omega|trivial|(show _=_;rfl)))|refine (ih x hat.m _ hat.r m (by omega) (by omega)) _ _ ?_|fail
  ·refine ih2 _ _ (by omega) (by split <;> omega) (by split <;> omega) fun N'' hN'' => Qi (hQ' N'' (by omega)) ?_
   simp only [zH]
   (repeat' split) <;> omega
  ·refine Qi (hQ' _ (by assumption)) ?_
   rw [if_pos (by omega)]
   omega
theorem uJ : ∀ (t : Ty) (d : D), t.Is d → t.cnt ≤ 1073741824 → tf 184 [.dg 2 d] t.dep := by
 refine Ty.ind fun k l ih d hd hc N Q hQ => ?_
 obtain ⟨a, es, c, rfl, hlen, hes⟩ := Ty.is_mk.1 hd
 refine ph N _ Q fun _ => ?_
 simp only [Ty.cnt] at hc
 have hdl := rZ l
 have key := up hes hlen (fun i xs => ∀ (m : Nat) (N' : Nat), N ≤ N' → max m (ud xs) = ud l → yX Q N (m : Int) i (.ag [.lit (.int .i64 k), .sl a 2 es c]) N') ?_ ?_
 ·exact key 0 N (Nat.le_refl _) (by omega)
 ·intro i hlt _ m N' hN' hm
  simp only [ud] at hm
  refine vC _ _ _ _ _ _ ?_
  repeat' first|with_reducible intro _|simp only[hlt,Y1,Y2,Y3,Y4]|(with_reducible first|refine X1 ?_ ?_|refine X2 ?_ ?_|refine X3 ?_ ?_|refine X4 ?_ ?_|refine X5 ?_ ?_|refine X6 ?_ ?_|refine X7 ?_ ?_|refine X8 ?_ ?_|refine X9 ?_ ?_)|refine⟨_,_,_,rfl,?_⟩|refine⟨_,rfl,?_⟩|((with_reducible refine And.intro ?_ ?_);·first|omega|trivial|(show _=_;rfl)|((with_reducible refine And.intro ?_ ?_)<;>first|omega|trivial|(show _=_;rfl)))|fail
  rw [i64_in _ (by omega)]
  refine Qi (hQ _ (Nat.le_trans hN' (by assumption))) ?_
  simp only [Ty.dep]
  omega
 ·intro i x xs hat _ ih2 m N' hN' hm
  have hb := hat.b
  have hxc := xn hat.m
  simp only [ud] at hm
  refine vC _ _ _ _ _ _ ?_
  repeat' first|with_reducible intro _|simp only[hat.lt, hat.w, Int.toNat_natCast,Y1,Y2,Y3,Y4]|(with_reducible first|refine X1 ?_ ?_|refine X2 ?_ ?_|refine X3 ?_ ?_|refine X4 ?_ ?_|refine X5 ?_ ?_|refine X6 ?_ ?_|refine X7 ?_ ?_|refine X8 ?_ ?_|refine X9 ?_ ?_)|refine⟨_,_,_,rfl,?_⟩|refine⟨_,rfl,?_⟩|((with_reducible refine And.intro ?_ ?_);·first|omega|trivial|(show _=_;rfl)|((with_reducible refine And.intro ?_ ?_)<;>first|omega|trivial|(show _=_;rfl)))|refine (ih x hat.m _ hat.r (by omega)) _ _ ?_|refine (zBQ _ _) _ _ ?_|fail
  have e : max (m : Int) (x.dep : Int) = ((max m x.dep : Nat) : Int) := by omega
  rw [e]
  exact ih2 _ _ (by omega) (by omega)
theorem qo : ∀ (t : Ty) (d : D), t.Is d → wS 185 [.dg 2 d] t.form := by
 refine Ty.ind fun k l ih d hd N Q hQ => ?_
 obtain ⟨a, es, c, rfl, hlen, hes⟩ := Ty.is_mk.1 hd
 have hl := hes.len
 refine zFy N _ Q fun _ => ?_
 have key := up hes hlen (fun i xs => ∀ (N' : Nat), N ≤ N' → (∀ N'', N' ≤ N'' → Q (uV xs && rr k l.length) N'') → wN Q N i (.ag [.lit (.int .i64 k), .sl a 2 es c]) N') ?_ ?_
 ·exact key N (Nat.le_refl _) hQ
 ·intro i hlt _ N' hN' hQ'
  refine rO _ _ _ _ _ ?_
  repeat' first|with_reducible intro _|simp only[hlt,Y1,Y2,Y3,Y4]|(with_reducible first|refine X1 ?_ ?_|refine X2 ?_ ?_|refine X3 ?_ ?_|refine X4 ?_ ?_|refine X5 ?_ ?_|refine X6 ?_ ?_|refine X7 ?_ ?_|refine X8 ?_ ?_|refine X9 ?_ ?_)|refine⟨_,_,_,rfl,?_⟩|refine⟨_,rfl,?_⟩|((with_reducible refine And.intro ?_ ?_);·first|omega|trivial|(show _=_;rfl)|((with_reducible refine And.intro ?_ ?_)<;>first|omega|trivial|(show _=_;rfl)))|fail
  all_goals (refine Qb (hQ' _ (by assumption)) ?_; simp [uV, rr, *])
 ·intro i x xs hat _ ih2 N' hN' hQ'
  have hb := hat.b
  refine rO _ _ _ _ _ ?_
  repeat' first|with_reducible intro _|simp only[hat.lt, hat.w, Int.toNat_natCast,Y1,Y2,Y3,Y4]|(with_reducible first|refine X1 ?_ ?_|refine X2 ?_ ?_|refine X3 ?_ ?_|refine X4 ?_ ?_|refine X5 ?_ ?_|refine X6 ?_ ?_|refine X7 ?_ ?_|refine X8 ?_ ?_|refine X9 ?_ ?_)|refine⟨_,_,_,rfl,?_⟩|refine⟨_,rfl,?_⟩|((with_reducible refine And.intro ?_ ?_);·first|omega|trivial|(show _=_;rfl)|((with_reducible refine And.intro ?_ ?_)<;>first|omega|trivial|(show _=_;rfl)))|refine (ih x hat.m _ hat.r) _ _ ?_|fail
  ·refine Qb (hQ' _ (by omega)) ?_; simp [uV, *]
  ·exact ih2 _ (by omega) fun N'' h => Qb (hQ' N'' (by omega)) (by simp [uV, *])
theorem y8 (t : Ty) (d : D) (hd : t.Is d) (hc : t.cnt ≤ 1073741824) : wS 141 [.dg 2 d] t.valid := fun N Q hQ => by
 refine p6 N _ Q fun _ => ?_
 by_cases h30 : t.cnt ≤ 30
 ·have h1 : ((t.cnt : Int) ≤ 30) := by omega
  repeat' first|with_reducible intro _|simp only[if_pos h1,Y1,Y2,Y3,Y4]|(with_reducible first|refine X1 ?_ ?_|refine X2 ?_ ?_|refine X3 ?_ ?_|refine X4 ?_ ?_|refine X5 ?_ ?_|refine X6 ?_ ?_|refine X7 ?_ ?_|refine X8 ?_ ?_|refine X9 ?_ ?_)|refine⟨_,_,_,rfl,?_⟩|refine⟨_,rfl,?_⟩|((with_reducible refine And.intro ?_ ?_);·first|omega|trivial|(show _=_;rfl)|((with_reducible refine And.intro ?_ ?_)<;>first|omega|trivial|(show _=_;rfl)))|refine (pm t d hd _ (by omega) (by omega)) _ _ ?_|refine (uJ t d hd hc) _ _ ?_|refine (qo t d hd) _ _ ?_|fail
  all_goals first | omega | skip
  ·have h8 : t.dep ≤ 8 := by omega
   refine Qb (hQ _ (by omega)) ?_; simp [Ty.valid, *]
  ·have h8 : ¬ t.dep ≤ 8 := by omega
   refine Qb (hQ _ (by omega)) ?_; simp [Ty.valid, *]
 ·have h1 : ¬ ((t.cnt : Int) ≤ 30) := by omega
  repeat' first|with_reducible intro _|simp only[if_neg h1,Y1,Y2,Y3,Y4]|(with_reducible first|refine X1 ?_ ?_|refine X2 ?_ ?_|refine X3 ?_ ?_|refine X4 ?_ ?_|refine X5 ?_ ?_|refine X6 ?_ ?_|refine X7 ?_ ?_|refine X8 ?_ ?_|refine X9 ?_ ?_)|refine⟨_,_,_,rfl,?_⟩|refine⟨_,rfl,?_⟩|((with_reducible refine And.intro ?_ ?_);·first|omega|trivial|(show _=_;rfl)|((with_reducible refine And.intro ?_ ?_)<;>first|omega|trivial|(show _=_;rfl)))|refine (pm t d hd _ (by omega) (by omega)) _ _ ?_|refine (uJ t d hd hc) _ _ ?_|refine (qo t d hd) _ _ ?_|fail
  all_goals first | omega | skip
  refine Qb (hQ _ (by omega)) ?_; simp [Ty.valid, *]
end Go.Proofs.YtfkmegifjiiclaaGreat

/- Types: equal ones, copies, small ones; the reference's functions. -/
set_option linter.unusedVariables false
set_option linter.unusedSimpArgs false
namespace Go.Proofs.YtfkmegifjiiclaaGreat
open Go Go.Proofs Go.Proofs.Tryz Go.IntWalk

/-- returns this type, in memory of its own -/
def zBE (f : FuncId) (args : List PV) (t : Ty) : Prop := ∀ (N : Nat) (Q : QT [.ag 2]), (∀ d' N', N ≤ N' → t.Is d' → Own N N' d' → Q d' N') → ACalls prog f [.ag 2] args N Q

def tInt : Ty := .mk 1 []
def tBool : Ty := .mk 2 []
def tZero : Ty := .mk 0 []
def vm (a b : Ty) : Ty := .mk 3 [a, b]
def zBn (a : Ty) : Ty := .mk 4 [a]
def Ty.base (t : Ty) : Bool := (t.k == 1 || t.k == 2) && (t.as.length : Int) == 0
theorem xu (k : Int) : (Ty.mk k []).Is (.ag [.lit (.int .i64 k), .sl none 2 [] 0]) := Ty.is_mk.2 ⟨_, _, _, rfl, by simp, rfl⟩
theorem yA {N N' : Nat} {x : Value} : Own N N' (.ag [.lit x, .sl none 2 [] 0]) := ⟨by simp [D.foot, zA], ⟨trivial, ⟨by simp, trivial⟩, trivial⟩, by simp [D.foot, zA], by simp [D.foot, zA]⟩
theorem tE : ∀ l : List Ty, l.length ≤ zH l
 | [] => Nat.le_refl _
 | .mk k l :: ts => by simp only [zH, Ty.cnt, List.length_cons]; have := tE ts; omega

theorem w6 : ∀ (t u : Ty) (d e : D), t.Is d → u.Is e → wS 127 [.dg 2 d, .dg 2 e] (uP t u) := by
 refine Ty.ind fun k l ih u d e hd he N Q hQ => ?_
 cases u with
 | mk k' l' =>
 obtain ⟨a, es, c, rfl, hlen, hes⟩ := Ty.is_mk.1 hd
 obtain ⟨a', es', c', rfl, hlen', hes'⟩ := Ty.is_mk.1 he
 have hl := hes.len
 have hl' := hes'.len
 simp only [uP] at hQ
 have key : l.length = l'.length → ∀ (N' : Nat), N ≤ N' → (∀ N'', N' ≤ N'' → Q (wv l (l'.drop 0)) N'') → yR Q N (0 : Nat) (.ag [.lit (.int .i64 k), .sl a 2 es c]) (.ag [.lit (.int .i64 k'), .sl a' 2 es' c']) N' := by
  intro hll
  refine up hes hlen (fun i xs => ∀ (N' : Nat), N ≤ N' → (∀ N'', N' ≤ N'' → Q (wv xs (l'.drop i)) N'') → yR Q N i (.ag [.lit (.int .i64 k), .sl a 2 es c]) (.ag [.lit (.int .i64 k'), .sl a' 2 es' c']) N') ?_ ?_
  ·intro i hlt hi N' hN' hQ'
   refine uQ _ _ _ _ _ _ ?_
   repeat' first|with_reducible intro _|simp only[hlt,Y1,Y2,Y3,Y4]|(with_reducible first|refine X1 ?_ ?_|refine X2 ?_ ?_|refine X3 ?_ ?_|refine X4 ?_ ?_|refine X5 ?_ ?_|refine X6 ?_ ?_|refine X7 ?_ ?_|refine X8 ?_ ?_|refine X9 ?_ ?_)|refine⟨_,_,_,rfl,?_⟩|refine⟨_,rfl,?_⟩|((with_reducible refine And.intro ?_ ?_);·first|omega|trivial|(show _=_;rfl)|((with_reducible refine And.intro ?_ ?_)<;>first|omega|trivial|(show _=_;rfl)))|fail
   refine Qb (hQ' _ (by assumption)) ?_
   rw [List.drop_eq_nil_of_le (by omega)]
   rfl
  ·intro i x xs hat _ ih2 N' hN' hQ'
   have hb := hat.b
   have hi' : i < l'.length := by omega
   have hg : l'[i]? = some l'[i] := List.getElem?_eq_getElem hi'
   have hd' : l'.drop i = l'[i] :: l'.drop (i + 1) := List.drop_eq_getElem_cons hi'
   refine uQ _ _ _ _ _ _ ?_
   rw [hd'] at hQ'
   repeat' first|with_reducible intro _|simp only[hat.lt, hat.w, Int.toNat_natCast,Y1,Y2,Y3,Y4]|(with_reducible first|refine X1 ?_ ?_|refine X2 ?_ ?_|refine X3 ?_ ?_|refine X4 ?_ ?_|refine X5 ?_ ?_|refine X6 ?_ ?_|refine X7 ?_ ?_|refine X8 ?_ ?_|refine X9 ?_ ?_)|refine⟨_,_,_,rfl,?_⟩|refine⟨_,rfl,?_⟩|((with_reducible refine And.intro ?_ ?_);·first|omega|trivial|(show _=_;rfl)|((with_reducible refine And.intro ?_ ?_)<;>first|omega|trivial|(show _=_;rfl)))|refine (ih x hat.m _ _ _ hat.r (hes'.get hg)) _ _ ?_|fail
   ·exact Qb (hQ' _ (by omega)) (by simp [wv, *])
   ·exact ih2 _ (by omega) fun N'' h => Qb (hQ' N'' (by omega)) (by simp [wv, *])
 refine zBw N _ _ Q fun _ _ => ?_
 repeat' first|with_reducible intro _|simp only[Y1,Y2,Y3,Y4]|(with_reducible first|refine X1 ?_ ?_|refine X2 ?_ ?_|refine X3 ?_ ?_|refine X4 ?_ ?_|refine X5 ?_ ?_|refine X6 ?_ ?_|refine X7 ?_ ?_|refine X8 ?_ ?_|refine X9 ?_ ?_)|refine⟨_,_,_,rfl,?_⟩|refine⟨_,rfl,?_⟩|((with_reducible refine And.intro ?_ ?_);·first|omega|trivial|(show _=_;rfl)|((with_reducible refine And.intro ?_ ?_)<;>first|omega|trivial|(show _=_;rfl)))|fail
 ·exact Qb (hQ _ (by assumption)) (by simp [*])
 ·exact Qb (hQ _ (by assumption)) (by rw [pK (by omega), Bool.and_false])
 ·exact key (by omega) N (Nat.le_refl _) fun N'' hN'' => Qb (hQ _ hN'') (by simp [*])
theorem tY (t : Ty) (d : D) (hd : t.Is d) : wS 135 [.dg 2 d] t.base := fun N Q hQ => by
 cases t with
 | mk k l =>
 obtain ⟨a, es, c, rfl, hlen, hes⟩ := Ty.is_mk.1 hd
 have hl := hes.len
 refine zGi N _ Q fun _ => ?_
 repeat' first|with_reducible intro _|simp only[Y1,Y2,Y3,Y4]|(with_reducible first|refine X1 ?_ ?_|refine X2 ?_ ?_|refine X3 ?_ ?_|refine X4 ?_ ?_|refine X5 ?_ ?_|refine X6 ?_ ?_|refine X7 ?_ ?_|refine X8 ?_ ?_|refine X9 ?_ ?_)|refine⟨_,_,_,rfl,?_⟩|refine⟨_,rfl,?_⟩|((with_reducible refine And.intro ?_ ?_);·first|omega|trivial|(show _=_;rfl)|((with_reducible refine And.intro ?_ ?_)<;>first|omega|trivial|(show _=_;rfl)))|fail
 all_goals refine Qb (hQ _ (by assumption)) ?_
 all_goals simp [Ty.base, Ty.k, Ty.as, hl, *]
theorem zBD : zBE 178 [] tInt := fun N Q hQ => zIo N Q fun N' hN' => hQ _ _ hN' (xu _) yA
theorem zAE : zBE 179 [] tBool := fun N Q hQ => zHE N Q fun N' hN' => hQ _ _ hN' (xu _) yA
theorem zY {α : Type} {l : List α} {i : Nat} {x : α} (h : l[i]? = some x) : l.take (i + 1) = l.take i ++ [x] := by
 rw [List.take_add_one, h]; rfl
theorem zU : ∀ (t : Ty) (d : D), t.Is d → t.cnt ≤ 1073741824 → zBE 109 [.dg 2 d] t := by
 refine Ty.ind fun k l ih d hd hc N Q hQ => ?_
 obtain ⟨a, es, c, rfl, hlen, hes⟩ := Ty.is_mk.1 hd
 have hl := hes.len
 simp only [Ty.cnt] at hc
 have hlc := tE l
 refine zGu N _ Q fun _ => ⟨_, rfl, ?_⟩
 have key := up hes hlen (fun i xs => ∀ (N' : Nat), N ≤ N' → (i = 0 → vP Q N i (.ag [.lit (.int .i64 k), .sl a 2 es c]) 0 none [] 0 k none [] 0 N') ∧ ∀ (m q : Nat) (r : List D), m = r.length → All2 Ty.Is (l.take i) r → OwnL N N' r →
  xA Q N i (.ag [.lit (.int .i64 k), .sl a 2 es c]) 0 none [] 0 k m q r q N') ?_ ?_
 ·exact (key N (Nat.le_refl _)).1 rfl
 ·intro i hlt hi N' hN'
  refine ⟨fun h0 => rJ _ _ _ _ _ _ _ _ _ _ _ _ _ ?_, fun m q r hm hr ho => uM _ _ _ _ _ _ _ _ _ _ _ _ _ _ ?_⟩
  ·repeat' first|with_reducible intro _|simp only[hlt,Y1,Y2,Y3,Y4]|(with_reducible first|refine X1 ?_ ?_|refine X2 ?_ ?_|refine X3 ?_ ?_|refine X4 ?_ ?_|refine X5 ?_ ?_|refine X6 ?_ ?_|refine X7 ?_ ?_|refine X8 ?_ ?_|refine X9 ?_ ?_)|refine⟨_,_,_,rfl,?_⟩|refine⟨_,rfl,?_⟩|((with_reducible refine And.intro ?_ ?_);·first|omega|trivial|(show _=_;rfl)|((with_reducible refine And.intro ?_ ?_)<;>first|omega|trivial|(show _=_;rfl)))|fail
   have : l = [] := List.eq_nil_of_length_eq_zero (by omega)
   subst this
   exact hQ _ _ (by omega) (xu _) yA
  ·repeat' first|with_reducible intro _|simp only[hlt,Y1,Y2,Y3,Y4]|(with_reducible first|refine X1 ?_ ?_|refine X2 ?_ ?_|refine X3 ?_ ?_|refine X4 ?_ ?_|refine X5 ?_ ?_|refine X6 ?_ ?_|refine X7 ?_ ?_|refine X8 ?_ ?_|refine X9 ?_ ?_)|refine⟨_,_,_,rfl,?_⟩|refine⟨_,rfl,?_⟩|((with_reducible refine And.intro ?_ ?_);·first|omega|trivial|(show _=_;rfl)|((with_reducible refine And.intro ?_ ?_)<;>first|omega|trivial|(show _=_;rfl)))|fail
   rename_i a' N3 hN3 hf N4 hN4
   rw [List.take_of_length_le (by omega)] at hr
   exact hQ _ _ (by omega) (Ty.is_mk.2 ⟨_, _, _, rfl, by have := hr.len; omega, hr⟩) (wm (zE (zN ((uS ho hf (by omega)).mono (Nat.le_refl _) hN4))))
 ·intro i x xs hat _ ih2 N' hN'
  have hb := hat.b
  have hxc := xn hat.m
  refine ⟨fun h0 => rJ _ _ _ _ _ _ _ _ _ _ _ _ _ ?_, fun m q r hm hr ho => uM _ _ _ _ _ _ _ _ _ _ _ _ _ _ ?_⟩
  ·repeat' first|with_reducible intro _|simp only[hat.lt, hat.w, Int.toNat_natCast,Y1,Y2,Y3,Y4]|(with_reducible first|refine X1 ?_ ?_|refine X2 ?_ ?_|refine X3 ?_ ?_|refine X4 ?_ ?_|refine X5 ?_ ?_|refine X6 ?_ ?_|refine X7 ?_ ?_|refine X8 ?_ ?_|refine X9 ?_ ?_)|refine⟨_,_,_,rfl,?_⟩|refine⟨_,rfl,?_⟩|((with_reducible refine And.intro ?_ ?_);·first|omega|trivial|(show _=_;rfl)|((with_reducible refine And.intro ?_ ?_)<;>first|omega|trivial|(show _=_;rfl)))|refine (ih x hat.m _ hat.r (by omega)) _ _ ?_|fail
   rename_i N2 hN2 d' N3 hN3 hx hox hle hbel
   subst h0
   exact ⟨by unfold zB; simp, fun c2 => (ih2 _ (by omega)).2 _ _ _ rfl (by rw [zY hat.g]; exact ⟨_, _, rfl, hx, rfl⟩) (zN (hox.mono (by omega) (Nat.le_refl _)))⟩
  ·repeat' first|with_reducible intro _|simp only[hat.lt, hat.w, Int.toNat_natCast,Y1,Y2,Y3,Y4]|(with_reducible first|refine X1 ?_ ?_|refine X2 ?_ ?_|refine X3 ?_ ?_|refine X4 ?_ ?_|refine X5 ?_ ?_|refine X6 ?_ ?_|refine X7 ?_ ?_|refine X8 ?_ ?_|refine X9 ?_ ?_)|refine⟨_,_,_,rfl,?_⟩|refine⟨_,rfl,?_⟩|((with_reducible refine And.intro ?_ ?_);·first|omega|trivial|(show _=_;rfl)|((with_reducible refine And.intro ?_ ?_)<;>first|omega|trivial|(show _=_;rfl)))|refine (ih x hat.m _ hat.r (by omega)) _ _ ?_|fail
   rename_i N2 hN2 d' N3 hN3 hx hox hle hbel
   have hrl := hr.len
   have hli : (l.take i).length = i := by rw [List.length_take]; omega
   refine ⟨by unfold zB; simp only [List.length_append, List.length_singleton]; omega, fun c2 => ?_⟩
   exact (ih2 _ (by omega)).2 _ _ _ rfl (by rw [zY hat.g]; exact hr.snoc hx) (zW (ho.mono (Nat.le_refl _) hN2) (zN hox) (by omega) hN3)
theorem s7 (t u : Ty) (d e : D) (hd : t.Is d) (he : u.Is e) (hct : t.cnt ≤ 1073741824) (hcu : u.cnt ≤ 1073741824) : zBE 222 [.dg 2 d, .dg 2 e] (vm t u) := fun N Q hQ => by
 refine zIS N _ _ Q fun _ _ => ?_
 repeat' first|with_reducible intro _|simp only[Y1,Y2,Y3,Y4]|(with_reducible first|refine X1 ?_ ?_|refine X2 ?_ ?_|refine X3 ?_ ?_|refine X4 ?_ ?_|refine X5 ?_ ?_|refine X6 ?_ ?_|refine X7 ?_ ?_|refine X8 ?_ ?_|refine X9 ?_ ?_)|refine⟨_,_,_,rfl,?_⟩|refine⟨_,rfl,?_⟩|((with_reducible refine And.intro ?_ ?_);·first|omega|trivial|(show _=_;rfl)|((with_reducible refine And.intro ?_ ?_)<;>first|omega|trivial|(show _=_;rfl)))|refine (zU t d hd hct) _ _ ?_|refine (zU u e he hcu) _ _ ?_|fail
 rename_i N1 hN1 d1 N2 hN2 h1 o1 hl1 b1 N3 hN3 d2 N4 hN4 h2 o2 hl2 b2 a' N5 hN5 hf N6 hN6
 exact hQ _ _ (by omega) (Ty.is_mk.2 ⟨_, _, _, rfl, by simp, _, _, rfl, h1, _, _, rfl, h2, rfl⟩)
  (wm (zE (zN ((uS (zW ((zN o1).mono hN1 hN3) (zN o2) (by omega) hN4) hf (by omega)).mono (Nat.le_refl _) hN6))))
theorem zG5 (t : Ty) (d : D) (hd : t.Is d) (hct : t.cnt ≤ 1073741824) : zBE 225 [.dg 2 d] (zBn t) := fun N Q hQ => by
 refine zG7 N _ Q fun _ => ?_
 repeat' first|with_reducible intro _|simp only[Y1,Y2,Y3,Y4]|(with_reducible first|refine X1 ?_ ?_|refine X2 ?_ ?_|refine X3 ?_ ?_|refine X4 ?_ ?_|refine X5 ?_ ?_|refine X6 ?_ ?_|refine X7 ?_ ?_|refine X8 ?_ ?_|refine X9 ?_ ?_)|refine⟨_,_,_,rfl,?_⟩|refine⟨_,rfl,?_⟩|((with_reducible refine And.intro ?_ ?_);·first|omega|trivial|(show _=_;rfl)|((with_reducible refine And.intro ?_ ?_)<;>first|omega|trivial|(show _=_;rfl)))|refine (zU t d hd hct) _ _ ?_|fail
 rename_i N1 hN1 d1 N2 hN2 h1 o1 hl1 b1 a' N5 hN5 hf N6 hN6
 exact hQ _ _ (by omega) (Ty.is_mk.2 ⟨_, _, _, rfl, by simp, _, _, rfl, h1, rfl⟩)
  (wm (zE (zN ((uS ((zN o1).mono hN1 (Nat.le_refl _)) hf (by omega)).mono (Nat.le_refl _) hN6))))
end Go.Proofs.YtfkmegifjiiclaaGreat

/- Names, terms, typings: the reference's functions. -/
set_option linter.unusedVariables false
set_option linter.unusedSimpArgs false
namespace Go.Proofs.YtfkmegifjiiclaaGreat
open Go Go.Proofs Go.Proofs.Tryz Go.IntWalk

theorem upN {n : Nat} (hn : n ≤ 4611686018427387904) (P : Nat → Prop) (hend : decide ((n : Int) < (n : Int)) = false → P n)
  (hstep : ∀ i : Nat, i < n → decide ((i : Int) < (n : Int)) = true → IntKind.i64.wrap ((i : Int) + 1) = ((i + 1 : Nat) : Int) → P (i + 1) → P i) : P 0 := by
 have key : ∀ (m i : Nat), i + m = n → P i := by
  intro m
  induction m with
  | zero => intro i h; have : i = n := by omega
            subst this; exact hend (by simp)
  | succ m ih => intro i h; exact hstep i (by omega) (decide_eq_true (by omega)) (by rw [i64_in _ (by omega)]; simp) (ih (i + 1) (by omega))
 exact key n 0 (by omega)

abbrev zBM (s : ByteArray) (i : Nat) : Int := ((s.data.getD i (OfNat.ofNat 0)).toNat : Int)
def zFN (s : ByteArray) (i : Nat) : Bool := (decide (zBM s i ≥ 97) && decide (zBM s i ≤ 122)) || (!(decide ((i : Int) = 0)) && (!(decide (zBM s i < 48)) && !(decide (zBM s i > 57))))
def uC (s : ByteArray) (i : Nat) : Bool := (List.range' i (s.size - i)).all (zFN s)
theorem pM {s : ByteArray} {i : Nat} (h : i < s.size) : uC s i = (zFN s i && uC s (i + 1)) := by
 unfold uC
 rw [show s.size - i = (s.size - (i + 1)) + 1 by omega, List.range'_succ]
 rfl
theorem zBO {s : ByteArray} : uC s s.size = true := by simp [uC]
def zE0 (s : ByteArray) : Bool := inB s.size 1 4 && (!(decide (s = bytes [105, 102])) && (!(decide (s = bytes [108, 101, 116])) && (!(decide (s = bytes [114, 101, 99])) && (!(decide (s = bytes [114, 117, 110])) && !(decide (s = bytes [108, 105, 102, 116]))))))
def ul (s : ByteArray) : Bool := uC s 0 && zE0 s
theorem tq (s : ByteArray) (hs : s.size ≤ 4611686018427387904) : wS 134 [.str s] (ul s) := fun N Q hQ => by
 refine zHF N s Q ?_
 have key := upN hs (fun i => ∀ N', N ≤ N' → (∀ N'', N' ≤ N'' → Q (uC s i && zE0 s) N'') → yf Q N s i N') ?_ ?_
 ·exact key N (Nat.le_refl _) hQ
 ·intro hlt N' hN' hQ'
  refine sY _ _ _ _ _ ?_
  repeat' first|with_reducible intro _|simp only[hlt,Y1,Y2,Y3,Y4]|(with_reducible first|refine X1 ?_ ?_|refine X2 ?_ ?_|refine X3 ?_ ?_|refine X4 ?_ ?_|refine X5 ?_ ?_|refine X6 ?_ ?_|refine X7 ?_ ?_|refine X8 ?_ ?_|refine X9 ?_ ?_)|refine⟨_,_,_,rfl,?_⟩|refine⟨_,rfl,?_⟩|((with_reducible refine And.intro ?_ ?_);·first|omega|trivial|(show _=_;rfl)|((with_reducible refine And.intro ?_ ?_)<;>first|omega|trivial|(show _=_;rfl)))|refine (xm _ _ _) _ _ ?_|fail
  all_goals (refine Qb (hQ' _ (by omega)) ?_; rw [zBO])
  all_goals simp [zE0, zB8, *]
 ·intro i hi hlt hw ih2 N' hN' hQ'
  refine sY _ _ _ _ _ ?_
  rw [pM hi] at hQ'
  repeat' first|with_reducible intro _|simp only[hlt, hw, Int.toNat_natCast,Y1,Y2,Y3,Y4]|(with_reducible first|refine X1 ?_ ?_|refine X2 ?_ ?_|refine X3 ?_ ?_|refine X4 ?_ ?_|refine X5 ?_ ?_|refine X6 ?_ ?_|refine X7 ?_ ?_|refine X8 ?_ ?_|refine X9 ?_ ?_)|refine⟨_,_,_,rfl,?_⟩|refine⟨_,rfl,?_⟩|((with_reducible refine And.intro ?_ ?_);·first|omega|trivial|(show _=_;rfl)|((with_reducible refine And.intro ?_ ?_)<;>first|omega|trivial|(show _=_;rfl)))|fail
  all_goals first
   | (refine Qb (hQ' _ (by omega)) ?_; unfold zFN zBM; simp only [*]; simp; done)
   | (refine ih2 _ (by omega) fun N'' h => Qb (hQ' N'' (by omega)) ?_; unfold zFN zBM; simp only [*]; simp; done)
end Go.Proofs.YtfkmegifjiiclaaGreat
