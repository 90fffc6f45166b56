/- The program's functions on terms, levels and contexts. -/
import Derived.Test.YtfkmegifjiiclaaGreatVn
set_option linter.unusedVariables false
set_option linter.unusedSimpArgs false
namespace Go.Proofs.YtfkmegifjiiclaaGreat
open Go Go.Proofs Go.Proofs.Tryz Go.IntWalk

theorem qR (s : ByteArray) : tf 239 [.str s] (zIx s) := fun N Q hQ => by
 refine zDz N s Q ?_
 repeat' first|with_reducible intro _|simp only[Y1,Y2,Y3,Y4]|(with_reducible first|refine X1 ?_ ?_|refine X2 ?_ ?_|refine X3 ?_ ?_|refine X4 ?_ ?_|refine X5 ?_ ?_|refine X6 ?_ ?_|refine X7 ?_ ?_|refine X8 ?_ ?_|refine X9 ?_ ?_)|refine⟨_,_,_,rfl,?_⟩|refine⟨_,rfl,?_⟩|((with_reducible refine And.intro ?_ ?_);·first|omega|trivial|(show _=_;rfl)|((with_reducible refine And.intro ?_ ?_)<;>first|omega|trivial|(show _=_;rfl)))|fail
 all_goals (refine Qi (hQ _ (by assumption)) ?_; unfold zIx; (repeat' split) <;> first | rfl | contradiction)
def arI (k : Int) (nm : ByteArray) : Int :=
 if k = 4 then zIx nm else if k = 5 then 3 else if k = 7 ∨ k = 8 then 2 else if k = 6 ∨ k = 9 ∨ k = 10 ∨ k = 11 ∨ k = 12 ∨ k = 13 then 1 else 0
theorem zIg {k n : Int} {nm ot : ByteArray} {t0 t1 r0 r1 x : D} : tf 227 [.dg 9 (.ag [.lit (.int .i64 k), .lit (.string nm), .lit (.string ot), .lit (.int .i64 n), t0, t1, r0, r1, x])] (arI k nm) := fun N Q hQ => by
 refine zHJ N _ Q fun _ => ?_
 repeat' first|with_reducible intro _|simp only[Y1,Y2,Y3,Y4]|(with_reducible first|refine X1 ?_ ?_|refine X2 ?_ ?_|refine X3 ?_ ?_|refine X4 ?_ ?_|refine X5 ?_ ?_|refine X6 ?_ ?_|refine X7 ?_ ?_|refine X8 ?_ ?_|refine X9 ?_ ?_)|refine⟨_,_,_,rfl,?_⟩|refine⟨_,rfl,?_⟩|((with_reducible refine And.intro ?_ ?_);·first|omega|trivial|(show _=_;rfl)|((with_reducible refine And.intro ?_ ?_)<;>first|omega|trivial|(show _=_;rfl)))|refine (qR _) _ _ ?_|fail
 all_goals (refine Qi (hQ _ (by omega)) ?_; simp [arI, *])
theorem wJ (n : Int) : wS 158 [.int .i64 n] (inB n 0 10006) := fun N Q hQ => by
 refine zDg N n Q ?_
 repeat' first|with_reducible intro _|simp only[Y1,Y2,Y3,Y4]|(with_reducible first|refine X1 ?_ ?_|refine X2 ?_ ?_|refine X3 ?_ ?_|refine X4 ?_ ?_|refine X5 ?_ ?_|refine X6 ?_ ?_|refine X7 ?_ ?_|refine X8 ?_ ?_|refine X9 ?_ ?_)|refine⟨_,_,_,rfl,?_⟩|refine⟨_,rfl,?_⟩|((with_reducible refine And.intro ?_ ?_);·first|omega|trivial|(show _=_;rfl)|((with_reducible refine And.intro ?_ ?_)<;>first|omega|trivial|(show _=_;rfl)))|refine (zq _ _ _) _ _ ?_|fail
 exact hQ _ (by omega)
def zEz (k : Int) (nm ot : ByteArray) (n : Int) (ty re : Ty) : Bool :=
 if k = 1 ∨ k = 8 then ul nm else if k = 2 then inB n 0 10006 else if k = 3 then inB n 0 1 else if k = 4 then decide (zIx nm > 0)
 else if k = 6 then ul nm && ty.valid else if k = 9 then ul nm && (ul ot && (!decide (nm = ot) && (ty.valid && re.valid))) else inB k 1 13
theorem zDr {k n : Int} {nm ot : ByteArray} {ty re : Ty} {t0 t1 r0 r1 x : D} (h : Tm.Hd nm ot ty re t0 t1 r0 r1) (hc : ty.cnt ≤ 1073741824) (hc2 : re.cnt ≤ 1073741824) :
  wS 228 [.dg 9 (.ag [.lit (.int .i64 k), .lit (.string nm), .lit (.string ot), .lit (.int .i64 n), t0, t1, r0, r1, x])] (zEz k nm ot n ty re) := fun N Q hQ => by
 refine zEK N _ Q fun _ => ?_
 repeat' first|with_reducible intro _|simp only[Y1,Y2,Y3,Y4]|(with_reducible first|refine X1 ?_ ?_|refine X2 ?_ ?_|refine X3 ?_ ?_|refine X4 ?_ ?_|refine X5 ?_ ?_|refine X6 ?_ ?_|refine X7 ?_ ?_|refine X8 ?_ ?_|refine X9 ?_ ?_)|refine⟨_,_,_,rfl,?_⟩|refine⟨_,rfl,?_⟩|((with_reducible refine And.intro ?_ ?_);·first|omega|trivial|(show _=_;rfl)|((with_reducible refine And.intro ?_ ?_)<;>first|omega|trivial|(show _=_;rfl)))|refine (qR _) _ _ ?_|refine (vH _ h.nm) _ _ ?_|refine (vH _ h.ot) _ _ ?_|refine (wJ _) _ _ ?_|refine (zq _ _ _) _ _ ?_|refine (xB _ _ h.ty hc) _ _ ?_|refine (xB _ _ h.re hc2) _ _ ?_|fail
 all_goals (refine Qb (hQ _ (by omega)) ?_; simp [zEz, *])
theorem zIs (t : Ty) : uP t t = true := (tS t t).2 rfl
def zKe (k : Int) (nm ot : ByteArray) (n : Int) (ty re : Ty) (m : Int) : Bool :=
 decide (m = arI k nm) && (zEz k nm ot n ty re && ((decide (k = 1 ∨ k = 8 ∨ k = 4 ∨ k = 6 ∨ k = 9) || decide (nm = bytes [])) && ((decide (k = 9) || decide (ot = bytes [])) && ((decide (k = 2 ∨ k = 3) || decide (n = 0)) &&
  ((decide (k = 6 ∨ k = 9) || uP ty tZero) && (decide (k = 9) || uP re tZero))))))
theorem zD6 {k n : Int} {nm ot : ByteArray} {ty re : Ty} {t0 t1 r0 r1 : D} {a : Option Addr} {es : List D} {c : Nat} (h : Tm.Hd nm ot ty re t0 t1 r0 r1) (hc : ty.cnt ≤ 1073741824) (hc2 : re.cnt ≤ 1073741824) :
  wS 187 [.dg 9 (.ag [.lit (.int .i64 k), .lit (.string nm), .lit (.string ot), .lit (.int .i64 n), t0, t1, r0, r1, .sl a 9 es c])] (zKe k nm ot n ty re es.length) := fun N Q hQ => by
 refine zHD N _ Q fun _ => ?_
 repeat' first|with_reducible intro _|simp only[Y1,Y2,Y3,Y4]|(with_reducible first|refine X1 ?_ ?_|refine X2 ?_ ?_|refine X3 ?_ ?_|refine X4 ?_ ?_|refine X5 ?_ ?_|refine X6 ?_ ?_|refine X7 ?_ ?_|refine X8 ?_ ?_|refine X9 ?_ ?_)|refine⟨_,_,_,rfl,?_⟩|refine⟨_,rfl,?_⟩|((with_reducible refine And.intro ?_ ?_);·first|omega|trivial|(show _=_;rfl)|((with_reducible refine And.intro ?_ ?_)<;>first|omega|trivial|(show _=_;rfl)))|refine zIg _ _ ?_|refine (zDr h hc hc2) _ _ ?_|refine (zV ty tZero _ _ h.ty yo) _ _ ?_|refine (zV re tZero _ _ h.re yo) _ _ ?_|refine (zV ty ty _ _ h.ty h.ty) _ _ ?_|refine (zV re re _ _ h.re h.re) _ _ ?_|fail
 all_goals first | (exfalso; omega) | (refine Qb (hQ _ (by omega)) ?_; simp [zKe, zIs, *]; done) | (refine Qb (hQ _ (by omega)) ?_; simp_all [zKe, zIs]; done)
theorem zOR (t : Ty) : uP t tZero = t.zero := by
 cases t with
 | mk k l => cases l <;> simp [uP, tZero, wv, Ty.zero, Ty.k, Ty.as]
             try omega
theorem zKk {t : Ty} (h : t.zero = true) : t.valid = false := by
 cases t with
 | mk k l =>
   simp only [Ty.zero, Ty.k, Ty.as, Bool.and_eq_true, beq_iff_eq] at h
   simp [Ty.valid, Ty.form, rr, h.1]
theorem zQ5 (n : Int) : inB n 0 0 = decide (n = 0) := by
 rw [Bool.eq_iff_iff, yJ, decide_eq_true_iff]; omega
theorem zp (t : Ty) (b : Bool) : (!t.valid && (t.zero && b)) = (t.zero && b) := by
 cases h : t.zero with
 | false => simp
 | true => rw [zKk h]; simp
theorem zNl (k : Int) (nm ot : ByteArray) (n : Int) (ty re : Ty) (m : Int) (hm : 0 ≤ m) : zKe k nm ot n ty re m = (yF k nm ot n ty re && m == r8 k nm) := by
 by_cases hk : k = 1 ∨ k = 2 ∨ k = 3 ∨ k = 4 ∨ k = 5 ∨ k = 6 ∨ k = 7 ∨ k = 8 ∨ k = 9 ∨ k = 10 ∨ k = 11 ∨ k = 12 ∨ k = 13
 ·rw [zP4 m]
  have b5 : inB 5 1 13 = true := rfl
  have b7 : inB 7 1 13 = true := rfl
  have b10 : inB 10 1 13 = true := rfl
  have b11 : inB 11 1 13 = true := rfl
  have b12 : inB 12 1 13 = true := rfl
  have b13 : inB 13 1 13 = true := rfl
  rcases hk with rfl | rfl | rfl | rfl | rfl | rfl | rfl | rfl | rfl | rfl | rfl | rfl | rfl
  all_goals
   simp [zKe, arI, zEz, yF, zBP, sq, r8, zOR, zQ5, zp, b5, b7, b10, b11, b12, b13]
   try (rw [Bool.eq_iff_iff]; simp [and_comm, and_left_comm, and_assoc])
 ·have h1 : r8 k nm = -1 := by
   unfold r8; rw [if_neg (by omega), if_neg (by omega), if_neg (by omega), if_neg (by omega), if_neg (by omega)]
  have h2 : inB k 1 13 = false := by
   cases h : inB k 1 13 with
   | false => rfl
   | true => have := yJ.1 h; omega
  have h3 : zEz k nm ot n ty re = false := by
   unfold zEz; rw [if_neg (by omega), if_neg (by omega), if_neg (by omega), if_neg (by omega), if_neg (by omega), if_neg (by omega), h2]
  have h4 : (m == r8 k nm) = false := by rw [h1, zP4]; exact decide_eq_false (by omega)
  rw [h4, zKe, h3]
  simp
theorem zNM {k n : Int} {nm ot : ByteArray} {ty re : Ty} {t0 t1 r0 r1 : D} {a : Option Addr} {es : List D} {c : Nat} (h : Tm.Hd nm ot ty re t0 t1 r0 r1) (hc : ty.cnt ≤ 1073741824) (hc2 : re.cnt ≤ 1073741824) :
  wS 187 [.dg 9 (.ag [.lit (.int .i64 k), .lit (.string nm), .lit (.string ot), .lit (.int .i64 n), t0, t1, r0, r1, .sl a 9 es c])] (yF k nm ot n ty re && (es.length : Int) == r8 k nm) := by
 rw [← zNl _ _ _ _ _ _ _ (by omega)]
 exact zD6 h hc hc2
theorem zHM : ∀ l : List Tm, zEL l = !(l.any fun x => !x.ok)
 | [] => rfl
 | t :: ts => by simp only [zEL, List.any_cons, zHM ts]; cases t.ok <;> simp
theorem zCY {p : Tm → Bool} {l : List Tm} {es : List D} (h : All2 Tm.Is l es) (hlen : es.length ≤ 4611686018427387904) (ad : Addr) (hp : ∀ x ∈ l, ∀ d, x.Is d → wS 142 [.dg 9 d, .pd ad 0 (.fn 187 [])] (p x)) (a : Option Addr) (c : Nat) :
  wS 80 [.sv a 9 es c, .fn 142 [.pd ad 0 (.fn 187 [])]] (l.any p) := fun N Q hQ => by
 have hi : tf 132 [.sv a 9 es c, .fn 142 [.pd ad 0 (.fn 187 [])]] (zA9 p l 0) := fun N Q hQ => by
  refine vw N a es c ad Q fun _ => ?_
  refine up h hlen (fun i xs => ∀ (N' : Nat), N ≤ N' → (∀ N'', N' ≤ N'' → Q (zA9 p xs i) N'') → zn Q N a es c ad es.length i N') ?_ ?_ N (Nat.le_refl _) hQ
  ·intro i hlt _ N' hN' hQ'
   refine xX _ _ _ _ _ _ _ _ _ ?_
   repeat' first|with_reducible intro _|simp only[hlt,Y1,Y2,Y3,Y4]|(with_reducible first|refine X1 ?_ ?_|refine X2 ?_ ?_|refine X3 ?_ ?_|refine X4 ?_ ?_|refine X5 ?_ ?_|refine X6 ?_ ?_|refine X7 ?_ ?_|refine X8 ?_ ?_|refine X9 ?_ ?_)|refine⟨_,_,_,rfl,?_⟩|refine⟨_,rfl,?_⟩|((with_reducible refine And.intro ?_ ?_);·first|omega|trivial|(show _=_;rfl)|((with_reducible refine And.intro ?_ ?_)<;>first|omega|trivial|(show _=_;rfl)))|fail
   exact hQ' _ (by omega)
  ·intro i x xs hat _ ih2 N' hN' hQ'
   have hb := hat.b
   simp only [zA9] at hQ'
   refine xX _ _ _ _ _ _ _ _ _ ?_
   repeat' first|with_reducible intro _|simp only[hat.lt, hat.w, Int.toNat_natCast,Y1,Y2,Y3,Y4]|(with_reducible first|refine X1 ?_ ?_|refine X2 ?_ ?_|refine X3 ?_ ?_|refine X4 ?_ ?_|refine X5 ?_ ?_|refine X6 ?_ ?_|refine X7 ?_ ?_|refine X8 ?_ ?_|refine X9 ?_ ?_)|refine⟨_,_,_,rfl,?_⟩|refine⟨_,rfl,?_⟩|((with_reducible refine And.intro ?_ ?_);·first|omega|trivial|(show _=_;rfl)|((with_reducible refine And.intro ?_ ?_)<;>first|omega|trivial|(show _=_;rfl)))|refine (hp x hat.m _ hat.r) _ _ ?_|fail
   ·exact Qi (hQ' _ (by omega)) (by rw [if_pos (by assumption)])
   ·rename_i h; exact ih2 _ (by omega) fun N'' h2 => Qi (hQ' _ (by omega)) (by rw [h]; simp)
 refine wx N a es c ad Q fun _ => ?_
 repeat' first|with_reducible intro _|simp only[Y1,Y2,Y3,Y4]|(with_reducible first|refine X1 ?_ ?_|refine X2 ?_ ?_|refine X3 ?_ ?_|refine X4 ?_ ?_|refine X5 ?_ ?_|refine X6 ?_ ?_|refine X7 ?_ ?_|refine X8 ?_ ?_|refine X9 ?_ ?_)|refine⟨_,_,_,rfl,?_⟩|refine⟨_,rfl,?_⟩|((with_reducible refine And.intro ?_ ?_);·first|omega|trivial|(show _=_;rfl)|((with_reducible refine And.intro ?_ ?_)<;>first|omega|trivial|(show _=_;rfl)))|refine hi _ _ ?_|fail
 exact Qb (hQ _ (by omega)) (v9 _ l 0 (by omega)).symm
theorem zKf : ∀ (t : Tm) (d : D), t.Is d → t.cnt ≤ 1073741824 → wS 95 [.dg 9 d, .fn 187 []] t.ok := by
 refine Tm.ind fun k nm ot n ty re l ih d hd hc N Q hQ => ?_
 obtain ⟨t0, t1, r0, r1, a, es, c, rfl, hh, hlen, hes⟩ := Tm.is_mk.1 hd
 have hl := hes.len
 simp only [Tm.cnt] at hc
 refine qr N _ Q fun _ => ?_
 simp only [Tm.ok, zHM, ← hl] at hQ
 repeat' first|with_reducible intro _|simp only[Y1,Y2,Y3,Y4]|(with_reducible first|refine X1 ?_ ?_|refine X2 ?_ ?_|refine X3 ?_ ?_|refine X4 ?_ ?_|refine X5 ?_ ?_|refine X6 ?_ ?_|refine X7 ?_ ?_|refine X8 ?_ ?_|refine X9 ?_ ?_)|refine⟨_,_,_,rfl,?_⟩|refine⟨_,rfl,?_⟩|((with_reducible refine And.intro ?_ ?_);·first|omega|trivial|(show _=_;rfl)|((with_reducible refine And.intro ?_ ?_)<;>first|omega|trivial|(show _=_;rfl)))|refine (zNM hh (by omega) (by omega)) _ _ ?_|refine (zCY hes hlen _ (fun x hx d hd => fun N Q hQ => rv N d _ Q fun _ N1 hN1 => ih x hx d hd (by have := zR hx; omega) N1 _ fun N2 hN2 hle N3 hN3 => hQ N3 (by omega)) _ _) _ _ ?_|fail
 ·have h : (yF k nm ot n ty re && (es.length : Int) == r8 k nm) = true := by assumption
  exact Qb (hQ _ (by omega)) (by rw [h, Bool.and_true])
 ·have h : (yF k nm ot n ty re && (es.length : Int) == r8 k nm) = false := by assumption
  exact Qb (hQ _ (by omega)) (by rw [h, Bool.and_false])
theorem pV (t : Tm) (d : D) (hd : t.Is d) (hc : t.cnt ≤ 1073741824) : wS 146 [.dg 9 d] t.ok := fun N Q hQ => by
 refine zFS N _ Q fun _ => ?_
 repeat' first|with_reducible intro _|simp only[Y1,Y2,Y3,Y4]|(with_reducible first|refine X1 ?_ ?_|refine X2 ?_ ?_|refine X3 ?_ ?_|refine X4 ?_ ?_|refine X5 ?_ ?_|refine X6 ?_ ?_|refine X7 ?_ ?_|refine X8 ?_ ?_|refine X9 ?_ ?_)|refine⟨_,_,_,rfl,?_⟩|refine⟨_,rfl,?_⟩|((with_reducible refine And.intro ?_ ?_);·first|omega|trivial|(show _=_;rfl)|((with_reducible refine And.intro ?_ ?_)<;>first|omega|trivial|(show _=_;rfl)))|refine (zKf t d hd hc) _ _ ?_|fail
 exact hQ _ (by omega)
theorem zJl {k n m : Int} {c1 c2 c4 c5 c6 c7 c8 : D} (h : 0 ≤ m ∧ m ≤ 2) : tf 230 [.dg 9 (.ag [.lit (.int .i64 k), c1, c2, .lit (.int .i64 n), c4, c5, c6, c7, c8]), .int .i64 m] (zu k m) := fun N Q hQ => by
 refine zBx N _ m Q fun _ => ?_
 rw [i64_in (m + 1) (by omega), i64_in (m - 1) (by omega)]
 repeat' first|with_reducible intro _|simp only[Y1,Y2,Y3,Y4]|(with_reducible first|refine X1 ?_ ?_|refine X2 ?_ ?_|refine X3 ?_ ?_|refine X4 ?_ ?_|refine X5 ?_ ?_|refine X6 ?_ ?_|refine X7 ?_ ?_|refine X8 ?_ ?_|refine X9 ?_ ?_)|refine⟨_,_,_,rfl,?_⟩|refine⟨_,rfl,?_⟩|((with_reducible refine And.intro ?_ ?_);·first|omega|trivial|(show _=_;rfl)|((with_reducible refine And.intro ?_ ?_)<;>first|omega|trivial|(show _=_;rfl)))|fail
 all_goals (refine Qi (hQ _ (by omega)) ?_; simp [zu, *])
theorem zBU (d : D) (m : Int) : wS 191 [.dg 9 d, .int .i64 m] (inB m 0 2) := fun N Q hQ => by
 refine zAK N _ m Q fun _ => ?_
 repeat' first|with_reducible intro _|simp only[Y1,Y2,Y3,Y4]|(with_reducible first|refine X1 ?_ ?_|refine X2 ?_ ?_|refine X3 ?_ ?_|refine X4 ?_ ?_|refine X5 ?_ ?_|refine X6 ?_ ?_|refine X7 ?_ ?_|refine X8 ?_ ?_|refine X9 ?_ ?_)|refine⟨_,_,_,rfl,?_⟩|refine⟨_,rfl,?_⟩|((with_reducible refine And.intro ?_ ?_);·first|omega|trivial|(show _=_;rfl)|((with_reducible refine And.intro ?_ ?_)<;>first|omega|trivial|(show _=_;rfl)))|refine (zq _ _ _) _ _ ?_|fail
 exact hQ _ (by omega)
theorem zNQ : ∀ (t : Tm) (d : D), t.Is d → ∀ m : Int, wS 190 [.dg 9 d, .int .i64 m, .fn 191 []] (t.lev m) := by
 refine Tm.ind fun k nm ot n ty re l ih d hd m N Q hQ => ?_
 obtain ⟨t0, t1, r0, r1, a, es, c, rfl, hh, hlen, hes⟩ := Tm.is_mk.1 hd
 have hl := hes.len
 refine zBv N _ m Q fun _ => ?_
 cases hin : inB m 0 2 with
 | false =>
   repeat' first|with_reducible intro _|simp only[hin,Y1,Y2,Y3,Y4]|(with_reducible first|refine X1 ?_ ?_|refine X2 ?_ ?_|refine X3 ?_ ?_|refine X4 ?_ ?_|refine X5 ?_ ?_|refine X6 ?_ ?_|refine X7 ?_ ?_|refine X8 ?_ ?_|refine X9 ?_ ?_)|refine⟨_,_,_,rfl,?_⟩|refine⟨_,rfl,?_⟩|((with_reducible refine And.intro ?_ ?_);·first|omega|trivial|(show _=_;rfl)|((with_reducible refine And.intro ?_ ?_)<;>first|omega|trivial|(show _=_;rfl)))|refine (zBU _ _) _ _ ?_|fail
   exact Qb (hQ _ (by omega)) (by simp [Tm.lev, hin])
 | true =>
   have hb := yJ.1 hin
   have key := up hes hlen (fun i xs => ∀ (N' : Nat), N ≤ N' → (∀ N'', N' ≤ N'' → Q (qI xs (zu k m)) N'') → wH Q N m a es c es.length i (.ag [.lit (.int .i64 k), .lit (.string nm), .lit (.string ot), .lit (.int .i64 n), t0, t1, r0, r1, .sl a 9 es c]) N') ?_ ?_
   ·repeat' first|with_reducible intro _|simp only[hin,Y1,Y2,Y3,Y4]|(with_reducible first|refine X1 ?_ ?_|refine X2 ?_ ?_|refine X3 ?_ ?_|refine X4 ?_ ?_|refine X5 ?_ ?_|refine X6 ?_ ?_|refine X7 ?_ ?_|refine X8 ?_ ?_|refine X9 ?_ ?_)|refine⟨_,_,_,rfl,?_⟩|refine⟨_,rfl,?_⟩|((with_reducible refine And.intro ?_ ?_);·first|omega|trivial|(show _=_;rfl)|((with_reducible refine And.intro ?_ ?_)<;>first|omega|trivial|(show _=_;rfl)))|refine (zBU _ _) _ _ ?_|fail
    exact key _ (by omega) fun N'' h => Qb (hQ N'' (by omega)) (by simp [Tm.lev, hin])
   ·intro i hlt _ N' hN' hQ'
    refine rK _ _ _ _ _ _ _ _ _ _ ?_
    repeat' first|with_reducible intro _|simp only[hlt,Y1,Y2,Y3,Y4]|(with_reducible first|refine X1 ?_ ?_|refine X2 ?_ ?_|refine X3 ?_ ?_|refine X4 ?_ ?_|refine X5 ?_ ?_|refine X6 ?_ ?_|refine X7 ?_ ?_|refine X8 ?_ ?_|refine X9 ?_ ?_)|refine⟨_,_,_,rfl,?_⟩|refine⟨_,rfl,?_⟩|((with_reducible refine And.intro ?_ ?_);·first|omega|trivial|(show _=_;rfl)|((with_reducible refine And.intro ?_ ?_)<;>first|omega|trivial|(show _=_;rfl)))|fail
    exact Qb (hQ' _ (by omega)) (by simp [qI])
   ·intro i x xs hat _ ih2 N' hN' hQ'
    have hb2 := hat.b
    refine rK _ _ _ _ _ _ _ _ _ _ ?_
    repeat' first|with_reducible intro _|simp only[hat.lt, hat.w, Int.toNat_natCast,Y1,Y2,Y3,Y4]|(with_reducible first|refine X1 ?_ ?_|refine X2 ?_ ?_|refine X3 ?_ ?_|refine X4 ?_ ?_|refine X5 ?_ ?_|refine X6 ?_ ?_|refine X7 ?_ ?_|refine X8 ?_ ?_|refine X9 ?_ ?_)|refine⟨_,_,_,rfl,?_⟩|refine⟨_,rfl,?_⟩|((with_reducible refine And.intro ?_ ?_);·first|omega|trivial|(show _=_;rfl)|((with_reducible refine And.intro ?_ ?_)<;>first|omega|trivial|(show _=_;rfl)))|refine (zJl hb) _ _ ?_|refine (ih x hat.m _ hat.r _) _ _ ?_|fail
    ·refine Qb (hQ' _ (by omega)) ?_; simp [qI, *]
    ·exact ih2 _ (by omega) fun N'' h => Qb (hQ' N'' (by omega)) (by simp [qI, *])
theorem rR (t : Tm) (d : D) (hd : t.Is d) (hc : t.cnt ≤ 1073741824) (m : Int) : wS 149 [.dg 9 d, .int .i64 m] (zJC t m) := fun N Q hQ => by
 refine zDD N _ m Q fun _ => ?_
 repeat' first|with_reducible intro _|simp only[Y1,Y2,Y3,Y4]|(with_reducible first|refine X1 ?_ ?_|refine X2 ?_ ?_|refine X3 ?_ ?_|refine X4 ?_ ?_|refine X5 ?_ ?_|refine X6 ?_ ?_|refine X7 ?_ ?_|refine X8 ?_ ?_|refine X9 ?_ ?_)|refine⟨_,_,_,rfl,?_⟩|refine⟨_,rfl,?_⟩|((with_reducible refine And.intro ?_ ?_);·first|omega|trivial|(show _=_;rfl)|((with_reducible refine And.intro ?_ ?_)<;>first|omega|trivial|(show _=_;rfl)))|refine (pV t d hd hc) _ _ ?_|refine (zNQ t d hd m) _ _ ?_|fail
 all_goals (refine Qb (hQ _ (by omega)) ?_; simp [zJC, *])
theorem zMV (x : Tg) (d : D) (hd : x.Is d) (hc : x.ty.cnt ≤ 1073741824) : wS 189 [.dg 4 d] (!x.ok) := fun N Q hQ => by
 obtain ⟨t0, t1, rfl, hs, ht⟩ := hd
 refine zEb N _ Q fun _ => ?_
 repeat' first|with_reducible intro _|simp only[Y1,Y2,Y3,Y4]|(with_reducible first|refine X1 ?_ ?_|refine X2 ?_ ?_|refine X3 ?_ ?_|refine X4 ?_ ?_|refine X5 ?_ ?_|refine X6 ?_ ?_|refine X7 ?_ ?_|refine X8 ?_ ?_|refine X9 ?_ ?_)|refine⟨_,_,_,rfl,?_⟩|refine⟨_,rfl,?_⟩|((with_reducible refine And.intro ?_ ?_);·first|omega|trivial|(show _=_;rfl)|((with_reducible refine And.intro ?_ ?_)<;>first|omega|trivial|(show _=_;rfl)))|refine (vH _ hs) _ _ ?_|refine (xB _ _ ht hc) _ _ ?_|refine (zq _ _ _) _ _ ?_|fail
 all_goals (refine Qb (hQ _ (by omega)) ?_; simp [Tg.ok, *])
theorem zH2 : ∀ l : List Tg, zHP l = !(l.any fun x => !x.ok)
 | [] => rfl
 | t :: ts => by simp only [zHP, List.any_cons, zH2 ts]; cases t.ok <;> simp
theorem s5 {g : List Tg} {es : List D} (h : Ctx g es) (hc : ∀ x ∈ g, x.ty.cnt ≤ 1073741824) (a : Option Addr) (c : Nat) : wS 148 [.sv a 4 es c] (zGf g) := fun N Q hQ => by
 have hl := h.all.len
 have hi : tf 229 [.sv a 4 es c, .fn 189 []] (zA9 (fun x => !x.ok) g 0) := fun N Q hQ => by
  refine vI N a es c Q fun _ => ?_
  refine up h.all h.len (fun i xs => ∀ (N' : Nat), N ≤ N' → (∀ N'', N' ≤ N'' → Q (zA9 (fun x => !x.ok) xs i) N'') → zZ Q N a es c es.length i N') ?_ ?_ N (Nat.le_refl _) hQ
  ·intro i hlt _ N' hN' hQ'
   refine xE _ _ _ _ _ _ _ _ ?_
   repeat' first|with_reducible intro _|simp only[hlt,Y1,Y2,Y3,Y4]|(with_reducible first|refine X1 ?_ ?_|refine X2 ?_ ?_|refine X3 ?_ ?_|refine X4 ?_ ?_|refine X5 ?_ ?_|refine X6 ?_ ?_|refine X7 ?_ ?_|refine X8 ?_ ?_|refine X9 ?_ ?_)|refine⟨_,_,_,rfl,?_⟩|refine⟨_,rfl,?_⟩|((with_reducible refine And.intro ?_ ?_);·first|omega|trivial|(show _=_;rfl)|((with_reducible refine And.intro ?_ ?_)<;>first|omega|trivial|(show _=_;rfl)))|fail
   exact hQ' _ (by omega)
  ·intro i x xs hat _ ih2 N' hN' hQ'
   have hb := hat.b
   simp only [zA9] at hQ'
   refine xE _ _ _ _ _ _ _ _ ?_
   repeat' first|with_reducible intro _|simp only[hat.lt, hat.w, Int.toNat_natCast,Y1,Y2,Y3,Y4]|(with_reducible first|refine X1 ?_ ?_|refine X2 ?_ ?_|refine X3 ?_ ?_|refine X4 ?_ ?_|refine X5 ?_ ?_|refine X6 ?_ ?_|refine X7 ?_ ?_|refine X8 ?_ ?_|refine X9 ?_ ?_)|refine⟨_,_,_,rfl,?_⟩|refine⟨_,rfl,?_⟩|((with_reducible refine And.intro ?_ ?_);·first|omega|trivial|(show _=_;rfl)|((with_reducible refine And.intro ?_ ?_)<;>first|omega|trivial|(show _=_;rfl)))|refine (zMV x _ hat.r (hc x hat.m)) _ _ ?_|fail
   all_goals first
    | exact Qi (hQ' _ (by omega)) (by rw [if_pos (by simp [*])])
    | exact ih2 _ (by omega) fun N'' h2 => Qi (hQ' _ (by omega)) (by rw [if_neg (by simp [*])]; simp)
 have hcf : wS 188 [.sv a 4 es c, .fn 189 []] (g.any fun x => !x.ok) := fun N Q hQ => by
  refine wZ N a es c Q fun _ => ?_
  repeat' first|with_reducible intro _|simp only[Y1,Y2,Y3,Y4]|(with_reducible first|refine X1 ?_ ?_|refine X2 ?_ ?_|refine X3 ?_ ?_|refine X4 ?_ ?_|refine X5 ?_ ?_|refine X6 ?_ ?_|refine X7 ?_ ?_|refine X8 ?_ ?_|refine X9 ?_ ?_)|refine⟨_,_,_,rfl,?_⟩|refine⟨_,rfl,?_⟩|((with_reducible refine And.intro ?_ ?_);·first|omega|trivial|(show _=_;rfl)|((with_reducible refine And.intro ?_ ?_)<;>first|omega|trivial|(show _=_;rfl)))|refine hi _ _ ?_|fail
  exact Qb (hQ _ (by omega)) (v9 _ g 0 (by omega)).symm
 refine zH1 N a es c Q fun _ => ?_
 repeat' first|with_reducible intro _|simp only[Y1,Y2,Y3,Y4]|(with_reducible first|refine X1 ?_ ?_|refine X2 ?_ ?_|refine X3 ?_ ?_|refine X4 ?_ ?_|refine X5 ?_ ?_|refine X6 ?_ ?_|refine X7 ?_ ?_|refine X8 ?_ ?_|refine X9 ?_ ?_)|refine⟨_,_,_,rfl,?_⟩|refine⟨_,rfl,?_⟩|((with_reducible refine And.intro ?_ ?_);·first|omega|trivial|(show _=_;rfl)|((with_reducible refine And.intro ?_ ?_)<;>first|omega|trivial|(show _=_;rfl)))|refine hcf _ _ ?_|fail
 ·exact Qb (hQ _ (by omega)) (by have : (g.length : Int) ≤ 12 := by omega
                                 simp [zGf, zH2, this])
 ·exact Qb (hQ _ (by omega)) (by have : ¬ (g.length : Int) ≤ 12 := by omega
                                 simp [zGf, this])
theorem zAZ {g : List Tg} {es : List D} (h : Ctx g es) (a : Option Addr) (c : Nat) (s : ByteArray) : tf 200 [.sv a 4 es c, .str s] (yB g s) := fun N Q hQ => by
 have hl := h.all.len
 have h1 := h.len
 refine zDU N a es c s Q fun _ => ?_
 have key := zQf h.all h.len (fun m => ∀ (N' : Nat), N ≤ N' → (∀ N'', N' ≤ N'' → Q (ve g s (m + 1).toNat) N'') → xM Q N a es c s m N') ?_ ?_
 ·rw [i64_in _ (by omega)]
  exact key N (Nat.le_refl _) fun N' hN' => Qi (hQ N' hN') (by rw [yB, ← hl]; congr 1; omega)
 ·intro N' hN' hQ'
  refine u9 _ _ _ _ _ _ _ _ ?_
  repeat' first|with_reducible intro _|simp only[Y1,Y2,Y3,Y4]|(with_reducible first|refine X1 ?_ ?_|refine X2 ?_ ?_|refine X3 ?_ ?_|refine X4 ?_ ?_|refine X5 ?_ ?_|refine X6 ?_ ?_|refine X7 ?_ ?_|refine X8 ?_ ?_|refine X9 ?_ ?_)|refine⟨_,_,_,rfl,?_⟩|refine⟨_,rfl,?_⟩|((with_reducible refine And.intro ?_ ?_);·first|omega|trivial|(show _=_;rfl)|((with_reducible refine And.intro ?_ ?_)<;>first|omega|trivial|(show _=_;rfl)))|fail
  ·omega
  ·exact hQ' _ (by assumption)
 ·intro i x hat hge hw ih N' hN' hQ'
  have hb := hat.b
  obtain ⟨t0, t1, hd, hs, ht⟩ := hat.r
  have e1 : ((i : Int) + 1).toNat = i + 1 := by omega
  have e2 : ((i : Int) - 1 + 1).toNat = i := by omega
  rw [e1] at hQ'
  simp only [ve, zFf hat.g] at hQ'
  rw [e2] at ih
  refine u9 _ _ _ _ _ _ _ _ ?_
  repeat' first|with_reducible intro _|simp only[hge, hw, Int.toNat_natCast, hd,Y1,Y2,Y3,Y4]|(with_reducible first|refine X1 ?_ ?_|refine X2 ?_ ?_|refine X3 ?_ ?_|refine X4 ?_ ?_|refine X5 ?_ ?_|refine X6 ?_ ?_|refine X7 ?_ ?_|refine X8 ?_ ?_|refine X9 ?_ ?_)|refine⟨_,_,_,rfl,?_⟩|refine⟨_,rfl,?_⟩|((with_reducible refine And.intro ?_ ?_);·first|omega|trivial|(show _=_;rfl)|((with_reducible refine And.intro ?_ ?_)<;>first|omega|trivial|(show _=_;rfl)))|fail
  ·rename_i hx _ _; exact Qi (hQ' _ (by omega)) (by rw [if_pos hx])
  ·rename_i hx; exact ih _ (by omega) fun N'' h => Qi (hQ' N'' (by omega)) (by rw [if_neg hx])
end Go.Proofs.YtfkmegifjiiclaaGreat
