/- The program's functions on terms, levels and contexts. -/
import Derived.Test.YtfkmegifjiiclaaGreatVn
set_option linter.unusedVariables false
set_option linter.unusedSimpArgs false
namespace Go.Proofs.YtfkmegifjiiclaaGreat
open Go Go.Proofs Go.Proofs.Tryz Go.IntWalk

theorem c_impl_OpArity (s : ByteArray) : RetI 239 [.str s] (opAr s) := fun N Q hQ => by
 refine w_impl_OpArity N s Q ?_
 repeat' first|with_reducible intro _|simp only[Y1,Y2,Y3,Y4]|(with_reducible first|refine X1 ?_ ?_|refine X2 ?_ ?_|refine X3 ?_ ?_|refine X4 ?_ ?_|refine X5 ?_ ?_|refine X6 ?_ ?_|refine X7 ?_ ?_|refine X8 ?_ ?_|refine X9 ?_ ?_)|refine⟨_,_,_,rfl,?_⟩|refine⟨_,rfl,?_⟩|((with_reducible refine And.intro ?_ ?_);·first|omega|trivial|(show _=_;rfl)|((with_reducible refine And.intro ?_ ?_)<;>first|omega|trivial|(show _=_;rfl)))|fail
 all_goals (refine Qi (hQ _ (by assumption)) ?_; unfold opAr; (repeat' split) <;> first | rfl | contradiction)
def arI (k : Int) (nm : ByteArray) : Int :=
 if k = 4 then opAr nm else if k = 5 then 3 else if k = 7 ∨ k = 8 then 2 else if k = 6 ∨ k = 9 ∨ k = 10 ∨ k = 11 ∨ k = 12 ∨ k = 13 then 1 else 0
theorem c_impl_arity {k n : Int} {nm ot : ByteArray} {t0 t1 r0 r1 x : D} : RetI 227 [.dg 9 (.ag [.lit (.int .i64 k), .lit (.string nm), .lit (.string ot), .lit (.int .i64 n), t0, t1, r0, r1, x])] (arI k nm) := fun N Q hQ => by
 refine w_impl_arity N _ Q fun _ => ?_
 repeat' first|with_reducible intro _|simp only[Y1,Y2,Y3,Y4]|(with_reducible first|refine X1 ?_ ?_|refine X2 ?_ ?_|refine X3 ?_ ?_|refine X4 ?_ ?_|refine X5 ?_ ?_|refine X6 ?_ ?_|refine X7 ?_ ?_|refine X8 ?_ ?_|refine X9 ?_ ?_)|refine⟨_,_,_,rfl,?_⟩|refine⟨_,rfl,?_⟩|((with_reducible refine And.intro ?_ ?_);·first|omega|trivial|(show _=_;rfl)|((with_reducible refine And.intro ?_ ?_)<;>first|omega|trivial|(show _=_;rfl)))|refine (c_impl_OpArity _) _ _ ?_|fail
 all_goals (refine Qi (hQ _ (by omega)) ?_; simp [arI, *])
theorem c_impl_isNumber (n : Int) : RetB 158 [.int .i64 n] (inB n 0 10006) := fun N Q hQ => by
 refine w_impl_isNumber N n Q ?_
 repeat' first|with_reducible intro _|simp only[Y1,Y2,Y3,Y4]|(with_reducible first|refine X1 ?_ ?_|refine X2 ?_ ?_|refine X3 ?_ ?_|refine X4 ?_ ?_|refine X5 ?_ ?_|refine X6 ?_ ?_|refine X7 ?_ ?_|refine X8 ?_ ?_|refine X9 ?_ ?_)|refine⟨_,_,_,rfl,?_⟩|refine⟨_,rfl,?_⟩|((with_reducible refine And.intro ?_ ?_);·first|omega|trivial|(show _=_;rfl)|((with_reducible refine And.intro ?_ ?_)<;>first|omega|trivial|(show _=_;rfl)))|refine (c_impl_within _ _ _) _ _ ?_|fail
 exact hQ _ (by omega)
def namedI (k : Int) (nm ot : ByteArray) (n : Int) (ty re : Ty) : Bool :=
 if k = 1 ∨ k = 8 then isName nm else if k = 2 then inB n 0 10006 else if k = 3 then inB n 0 1 else if k = 4 then decide (opAr nm > 0)
 else if k = 6 then isName nm && ty.valid else if k = 9 then isName nm && (isName ot && (!decide (nm = ot) && (ty.valid && re.valid))) else inB k 1 13
theorem c_impl_isNamed {k n : Int} {nm ot : ByteArray} {ty re : Ty} {t0 t1 r0 r1 x : D} (h : Tm.Hd nm ot ty re t0 t1 r0 r1) (hc : ty.cnt ≤ 1073741824) (hc2 : re.cnt ≤ 1073741824) :
  RetB 228 [.dg 9 (.ag [.lit (.int .i64 k), .lit (.string nm), .lit (.string ot), .lit (.int .i64 n), t0, t1, r0, r1, x])] (namedI k nm ot n ty re) := fun N Q hQ => by
 refine w_impl_isNamed N _ Q fun _ => ?_
 repeat' first|with_reducible intro _|simp only[Y1,Y2,Y3,Y4]|(with_reducible first|refine X1 ?_ ?_|refine X2 ?_ ?_|refine X3 ?_ ?_|refine X4 ?_ ?_|refine X5 ?_ ?_|refine X6 ?_ ?_|refine X7 ?_ ?_|refine X8 ?_ ?_|refine X9 ?_ ?_)|refine⟨_,_,_,rfl,?_⟩|refine⟨_,rfl,?_⟩|((with_reducible refine And.intro ?_ ?_);·first|omega|trivial|(show _=_;rfl)|((with_reducible refine And.intro ?_ ?_)<;>first|omega|trivial|(show _=_;rfl)))|refine (c_impl_OpArity _) _ _ ?_|refine (c_impl_IsName _ h.nm) _ _ ?_|refine (c_impl_IsName _ h.ot) _ _ ?_|refine (c_impl_isNumber _) _ _ ?_|refine (c_impl_within _ _ _) _ _ ?_|refine (c_impl_IsValidType _ _ h.ty hc) _ _ ?_|refine (c_impl_IsValidType _ _ h.re hc2) _ _ ?_|fail
 all_goals (refine Qb (hQ _ (by omega)) ?_; simp [namedI, *])
theorem tyEq_self (t : Ty) : tyEq t t = true := (tyEq_iff t t).2 rfl
def formI (k : Int) (nm ot : ByteArray) (n : Int) (ty re : Ty) (m : Int) : Bool :=
 decide (m = arI k nm) && (namedI k nm ot n ty re && ((decide (k = 1 ∨ k = 8 ∨ k = 4 ∨ k = 6 ∨ k = 9) || decide (nm = bytes [])) && ((decide (k = 9) || decide (ot = bytes [])) && ((decide (k = 2 ∨ k = 3) || decide (n = 0)) &&
  ((decide (k = 6 ∨ k = 9) || tyEq ty tZero) && (decide (k = 9) || tyEq re tZero))))))
theorem c_impl_isForm0 {k n : Int} {nm ot : ByteArray} {ty re : Ty} {t0 t1 r0 r1 : D} {a : Option Addr} {es : List D} {c : Nat} (h : Tm.Hd nm ot ty re t0 t1 r0 r1) (hc : ty.cnt ≤ 1073741824) (hc2 : re.cnt ≤ 1073741824) :
  RetB 187 [.dg 9 (.ag [.lit (.int .i64 k), .lit (.string nm), .lit (.string ot), .lit (.int .i64 n), t0, t1, r0, r1, .sl a 9 es c])] (formI k nm ot n ty re es.length) := fun N Q hQ => by
 refine w_impl_isForm N _ Q fun _ => ?_
 repeat' first|with_reducible intro _|simp only[Y1,Y2,Y3,Y4]|(with_reducible first|refine X1 ?_ ?_|refine X2 ?_ ?_|refine X3 ?_ ?_|refine X4 ?_ ?_|refine X5 ?_ ?_|refine X6 ?_ ?_|refine X7 ?_ ?_|refine X8 ?_ ?_|refine X9 ?_ ?_)|refine⟨_,_,_,rfl,?_⟩|refine⟨_,rfl,?_⟩|((with_reducible refine And.intro ?_ ?_);·first|omega|trivial|(show _=_;rfl)|((with_reducible refine And.intro ?_ ?_)<;>first|omega|trivial|(show _=_;rfl)))|refine c_impl_arity _ _ ?_|refine (c_impl_isNamed h hc hc2) _ _ ?_|refine (c_impl_EqualType ty tZero _ _ h.ty zero_is) _ _ ?_|refine (c_impl_EqualType re tZero _ _ h.re zero_is) _ _ ?_|refine (c_impl_EqualType ty ty _ _ h.ty h.ty) _ _ ?_|refine (c_impl_EqualType re re _ _ h.re h.re) _ _ ?_|fail
 all_goals first | (exfalso; omega) | (refine Qb (hQ _ (by omega)) ?_; simp [formI, tyEq_self, *]; done) | (refine Qb (hQ _ (by omega)) ?_; simp_all [formI, tyEq_self]; done)
theorem zero_eq (t : Ty) : tyEq t tZero = t.zero := by
 cases t with
 | mk k l => cases l <;> simp [tyEq, tZero, tysEq, Ty.zero, Ty.k, Ty.as]
             try omega
theorem zero_valid {t : Ty} (h : t.zero = true) : t.valid = false := by
 cases t with
 | mk k l =>
   simp only [Ty.zero, Ty.k, Ty.as, Bool.and_eq_true, beq_iff_eq] at h
   simp [Ty.valid, Ty.form, formK, h.1]
theorem inB0 (n : Int) : inB n 0 0 = decide (n = 0) := by
 rw [Bool.eq_iff_iff, inB_iff, decide_eq_true_iff]; omega
theorem zp (t : Ty) (b : Bool) : (!t.valid && (t.zero && b)) = (t.zero && b) := by
 cases h : t.zero with
 | false => simp
 | true => rw [zero_valid h]; simp
theorem formI_eq (k : Int) (nm ot : ByteArray) (n : Int) (ty re : Ty) (m : Int) (hm : 0 ≤ m) : formI k nm ot n ty re m = (fieldsOk k nm ot n ty re && m == arOf k nm) := by
 by_cases hk : k = 1 ∨ k = 2 ∨ k = 3 ∨ k = 4 ∨ k = 5 ∨ k = 6 ∨ k = 7 ∨ k = 8 ∨ k = 9 ∨ k = 10 ∨ k = 11 ∨ k = 12 ∨ k = 13
 ·rw [ibeq m]
  have b5 : inB 5 1 13 = true := rfl
  have b7 : inB 7 1 13 = true := rfl
  have b10 : inB 10 1 13 = true := rfl
  have b11 : inB 11 1 13 = true := rfl
  have b12 : inB 12 1 13 = true := rfl
  have b13 : inB 13 1 13 = true := rfl
  rcases hk with rfl | rfl | rfl | rfl | rfl | rfl | rfl | rfl | rfl | rfl | rfl | rfl | rfl
  all_goals
   simp [formI, arI, namedI, fieldsOk, typedK, namesOk, arOf, zero_eq, inB0, zp, b5, b7, b10, b11, b12, b13]
   try (rw [Bool.eq_iff_iff]; simp [and_comm, and_left_comm, and_assoc])
 ·have h1 : arOf k nm = -1 := by
   unfold arOf; rw [if_neg (by omega), if_neg (by omega), if_neg (by omega), if_neg (by omega), if_neg (by omega)]
  have h2 : inB k 1 13 = false := by
   cases h : inB k 1 13 with
   | false => rfl
   | true => have := inB_iff.1 h; omega
  have h3 : namedI k nm ot n ty re = false := by
   unfold namedI; rw [if_neg (by omega), if_neg (by omega), if_neg (by omega), if_neg (by omega), if_neg (by omega), if_neg (by omega), h2]
  have h4 : (m == arOf k nm) = false := by rw [h1, ibeq]; exact decide_eq_false (by omega)
  rw [h4, formI, h3]
  simp
theorem c_isForm {k n : Int} {nm ot : ByteArray} {ty re : Ty} {t0 t1 r0 r1 : D} {a : Option Addr} {es : List D} {c : Nat} (h : Tm.Hd nm ot ty re t0 t1 r0 r1) (hc : ty.cnt ≤ 1073741824) (hc2 : re.cnt ≤ 1073741824) :
  RetB 187 [.dg 9 (.ag [.lit (.int .i64 k), .lit (.string nm), .lit (.string ot), .lit (.int .i64 n), t0, t1, r0, r1, .sl a 9 es c])] (fieldsOk k nm ot n ty re && (es.length : Int) == arOf k nm) := by
 rw [← formI_eq _ _ _ _ _ _ _ (by omega)]
 exact c_impl_isForm0 h hc hc2
theorem tmsOk_any : ∀ l : List Tm, tmsOk l = !(l.any fun x => !x.ok)
 | [] => rfl
 | t :: ts => by simp only [tmsOk, List.any_cons, tmsOk_any ts]; cases t.ok <;> simp
theorem c_Contains_Term {p : Tm → Bool} {l : List Tm} {es : List D} (h : All2 Tm.Is l es) (hlen : es.length ≤ 4611686018427387904) (ad : Addr) (hp : ∀ x ∈ l, ∀ d, x.Is d → RetB 142 [.dg 9 d, .pd ad 0 (.fn 187 [])] (p x)) (a : Option Addr) (c : Nat) :
  RetB 80 [.sv a 9 es c, .fn 142 [.pd ad 0 (.fn 187 [])]] (l.any p) := fun N Q hQ => by
 have hi : RetI 132 [.sv a 9 es c, .fn 142 [.pd ad 0 (.fn 187 [])]] (idxF p l 0) := fun N Q hQ => by
  refine w_slices_IndexFunc_Term_i0 N a es c ad Q fun _ => ?_
  refine up h hlen (fun i xs => ∀ (N' : Nat), N ≤ N' → (∀ N'', N' ≤ N'' → Q (idxF p xs i) N'') → L_slices_IndexFunc_Term_2 Q N a es c ad es.length i N') ?_ ?_ N (Nat.le_refl _) hQ
  ·intro i hlt _ N' hN' hQ'
   refine l_slices_IndexFunc_Term_2 _ _ _ _ _ _ _ _ _ ?_
   repeat' first|with_reducible intro _|simp only[hlt,Y1,Y2,Y3,Y4]|(with_reducible first|refine X1 ?_ ?_|refine X2 ?_ ?_|refine X3 ?_ ?_|refine X4 ?_ ?_|refine X5 ?_ ?_|refine X6 ?_ ?_|refine X7 ?_ ?_|refine X8 ?_ ?_|refine X9 ?_ ?_)|refine⟨_,_,_,rfl,?_⟩|refine⟨_,rfl,?_⟩|((with_reducible refine And.intro ?_ ?_);·first|omega|trivial|(show _=_;rfl)|((with_reducible refine And.intro ?_ ?_)<;>first|omega|trivial|(show _=_;rfl)))|fail
   exact hQ' _ (by omega)
  ·intro i x xs hat _ ih2 N' hN' hQ'
   have hb := hat.b
   simp only [idxF] at hQ'
   refine l_slices_IndexFunc_Term_2 _ _ _ _ _ _ _ _ _ ?_
   repeat' first|with_reducible intro _|simp only[hat.lt, hat.w, Int.toNat_natCast,Y1,Y2,Y3,Y4]|(with_reducible first|refine X1 ?_ ?_|refine X2 ?_ ?_|refine X3 ?_ ?_|refine X4 ?_ ?_|refine X5 ?_ ?_|refine X6 ?_ ?_|refine X7 ?_ ?_|refine X8 ?_ ?_|refine X9 ?_ ?_)|refine⟨_,_,_,rfl,?_⟩|refine⟨_,rfl,?_⟩|((with_reducible refine And.intro ?_ ?_);·first|omega|trivial|(show _=_;rfl)|((with_reducible refine And.intro ?_ ?_)<;>first|omega|trivial|(show _=_;rfl)))|refine (hp x hat.m _ hat.r) _ _ ?_|fail
   ·exact Qi (hQ' _ (by omega)) (by rw [if_pos (by assumption)])
   ·rename_i h; exact ih2 _ (by omega) fun N'' h2 => Qi (hQ' _ (by omega)) (by rw [h]; simp)
 refine w_slices_ContainsFunc_Term_i0 N a es c ad Q fun _ => ?_
 repeat' first|with_reducible intro _|simp only[Y1,Y2,Y3,Y4]|(with_reducible first|refine X1 ?_ ?_|refine X2 ?_ ?_|refine X3 ?_ ?_|refine X4 ?_ ?_|refine X5 ?_ ?_|refine X6 ?_ ?_|refine X7 ?_ ?_|refine X8 ?_ ?_|refine X9 ?_ ?_)|refine⟨_,_,_,rfl,?_⟩|refine⟨_,rfl,?_⟩|((with_reducible refine And.intro ?_ ?_);·first|omega|trivial|(show _=_;rfl)|((with_reducible refine And.intro ?_ ?_)<;>first|omega|trivial|(show _=_;rfl)))|refine hi _ _ ?_|fail
 exact Qb (hQ _ (by omega)) (idxF_any _ l 0 (by omega)).symm
theorem c_allTerms : ∀ (t : Tm) (d : D), t.Is d → t.cnt ≤ 1073741824 → RetB 95 [.dg 9 d, .fn 187 []] t.ok := by
 refine Tm.ind fun k nm ot n ty re l ih d hd hc N Q hQ => ?_
 obtain ⟨t0, t1, r0, r1, a, es, c, rfl, hh, hlen, hes⟩ := Tm.is_mk.1 hd
 have hl := hes.len
 simp only [Tm.cnt] at hc
 refine w_impl_allTerms_i0 N _ Q fun _ => ?_
 simp only [Tm.ok, tmsOk_any, ← hl] at hQ
 repeat' first|with_reducible intro _|simp only[Y1,Y2,Y3,Y4]|(with_reducible first|refine X1 ?_ ?_|refine X2 ?_ ?_|refine X3 ?_ ?_|refine X4 ?_ ?_|refine X5 ?_ ?_|refine X6 ?_ ?_|refine X7 ?_ ?_|refine X8 ?_ ?_|refine X9 ?_ ?_)|refine⟨_,_,_,rfl,?_⟩|refine⟨_,rfl,?_⟩|((with_reducible refine And.intro ?_ ?_);·first|omega|trivial|(show _=_;rfl)|((with_reducible refine And.intro ?_ ?_)<;>first|omega|trivial|(show _=_;rfl)))|refine (c_isForm hh (by omega) (by omega)) _ _ ?_|refine (c_Contains_Term hes hlen _ (fun x hx d hd => fun N Q hQ => w_impl_allTerms_1_i0 N d _ Q fun _ N1 hN1 => ih x hx d hd (by have := tms_mem_cnt hx; omega) N1 _ fun N2 hN2 hle N3 hN3 => hQ N3 (by omega)) _ _) _ _ ?_|fail
 ·have h : (fieldsOk k nm ot n ty re && (es.length : Int) == arOf k nm) = true := by assumption
  exact Qb (hQ _ (by omega)) (by rw [h, Bool.and_true])
 ·have h : (fieldsOk k nm ot n ty re && (es.length : Int) == arOf k nm) = false := by assumption
  exact Qb (hQ _ (by omega)) (by rw [h, Bool.and_false])
theorem c_impl_IsTerm (t : Tm) (d : D) (hd : t.Is d) (hc : t.cnt ≤ 1073741824) : RetB 146 [.dg 9 d] t.ok := fun N Q hQ => by
 refine w_impl_IsTerm N _ Q fun _ => ?_
 repeat' first|with_reducible intro _|simp only[Y1,Y2,Y3,Y4]|(with_reducible first|refine X1 ?_ ?_|refine X2 ?_ ?_|refine X3 ?_ ?_|refine X4 ?_ ?_|refine X5 ?_ ?_|refine X6 ?_ ?_|refine X7 ?_ ?_|refine X8 ?_ ?_|refine X9 ?_ ?_)|refine⟨_,_,_,rfl,?_⟩|refine⟨_,rfl,?_⟩|((with_reducible refine And.intro ?_ ?_);·first|omega|trivial|(show _=_;rfl)|((with_reducible refine And.intro ?_ ?_)<;>first|omega|trivial|(show _=_;rfl)))|refine (c_allTerms t d hd hc) _ _ ?_|fail
 exact hQ _ (by omega)
theorem c_partLevel {k n m : Int} {c1 c2 c4 c5 c6 c7 c8 : D} (h : 0 ≤ m ∧ m ≤ 2) : RetI 230 [.dg 9 (.ag [.lit (.int .i64 k), c1, c2, .lit (.int .i64 n), c4, c5, c6, c7, c8]), .int .i64 m] (nextL k m) := fun N Q hQ => by
 refine w_impl_partLevel N _ m Q fun _ => ?_
 rw [i64_in (m + 1) (by omega), i64_in (m - 1) (by omega)]
 repeat' first|with_reducible intro _|simp only[Y1,Y2,Y3,Y4]|(with_reducible first|refine X1 ?_ ?_|refine X2 ?_ ?_|refine X3 ?_ ?_|refine X4 ?_ ?_|refine X5 ?_ ?_|refine X6 ?_ ?_|refine X7 ?_ ?_|refine X8 ?_ ?_|refine X9 ?_ ?_)|refine⟨_,_,_,rfl,?_⟩|refine⟨_,rfl,?_⟩|((with_reducible refine And.intro ?_ ?_);·first|omega|trivial|(show _=_;rfl)|((with_reducible refine And.intro ?_ ?_)<;>first|omega|trivial|(show _=_;rfl)))|fail
 all_goals (refine Qi (hQ _ (by omega)) ?_; simp [nextL, *])
theorem c_LevelsOk_1 (d : D) (m : Int) : RetB 191 [.dg 9 d, .int .i64 m] (inB m 0 2) := fun N Q hQ => by
 refine w_impl_LevelsOk_1 N _ m Q fun _ => ?_
 repeat' first|with_reducible intro _|simp only[Y1,Y2,Y3,Y4]|(with_reducible first|refine X1 ?_ ?_|refine X2 ?_ ?_|refine X3 ?_ ?_|refine X4 ?_ ?_|refine X5 ?_ ?_|refine X6 ?_ ?_|refine X7 ?_ ?_|refine X8 ?_ ?_|refine X9 ?_ ?_)|refine⟨_,_,_,rfl,?_⟩|refine⟨_,rfl,?_⟩|((with_reducible refine And.intro ?_ ?_);·first|omega|trivial|(show _=_;rfl)|((with_reducible refine And.intro ?_ ?_)<;>first|omega|trivial|(show _=_;rfl)))|refine (c_impl_within _ _ _) _ _ ?_|fail
 exact hQ _ (by omega)
theorem c_levels : ∀ (t : Tm) (d : D), t.Is d → ∀ m : Int, RetB 190 [.dg 9 d, .int .i64 m, .fn 191 []] (t.lev m) := by
 refine Tm.ind fun k nm ot n ty re l ih d hd m N Q hQ => ?_
 obtain ⟨t0, t1, r0, r1, a, es, c, rfl, hh, hlen, hes⟩ := Tm.is_mk.1 hd
 have hl := hes.len
 refine w_impl_levels_i0 N _ m Q fun _ => ?_
 cases hin : inB m 0 2 with
 | false =>
   repeat' first|with_reducible intro _|simp only[hin,Y1,Y2,Y3,Y4]|(with_reducible first|refine X1 ?_ ?_|refine X2 ?_ ?_|refine X3 ?_ ?_|refine X4 ?_ ?_|refine X5 ?_ ?_|refine X6 ?_ ?_|refine X7 ?_ ?_|refine X8 ?_ ?_|refine X9 ?_ ?_)|refine⟨_,_,_,rfl,?_⟩|refine⟨_,rfl,?_⟩|((with_reducible refine And.intro ?_ ?_);·first|omega|trivial|(show _=_;rfl)|((with_reducible refine And.intro ?_ ?_)<;>first|omega|trivial|(show _=_;rfl)))|refine (c_LevelsOk_1 _ _) _ _ ?_|fail
   exact Qb (hQ _ (by omega)) (by simp [Tm.lev, hin])
 | true =>
   have hb := inB_iff.1 hin
   have key := up hes hlen (fun i xs => ∀ (N' : Nat), N ≤ N' → (∀ N'', N' ≤ N'' → Q (tmsLev xs (nextL k m)) N'') → L_impl_levels_4 Q N m a es c es.length i (.ag [.lit (.int .i64 k), .lit (.string nm), .lit (.string ot), .lit (.int .i64 n), t0, t1, r0, r1, .sl a 9 es c]) N') ?_ ?_
   ·repeat' first|with_reducible intro _|simp only[hin,Y1,Y2,Y3,Y4]|(with_reducible first|refine X1 ?_ ?_|refine X2 ?_ ?_|refine X3 ?_ ?_|refine X4 ?_ ?_|refine X5 ?_ ?_|refine X6 ?_ ?_|refine X7 ?_ ?_|refine X8 ?_ ?_|refine X9 ?_ ?_)|refine⟨_,_,_,rfl,?_⟩|refine⟨_,rfl,?_⟩|((with_reducible refine And.intro ?_ ?_);·first|omega|trivial|(show _=_;rfl)|((with_reducible refine And.intro ?_ ?_)<;>first|omega|trivial|(show _=_;rfl)))|refine (c_LevelsOk_1 _ _) _ _ ?_|fail
    exact key _ (by omega) fun N'' h => Qb (hQ N'' (by omega)) (by simp [Tm.lev, hin])
   ·intro i hlt _ N' hN' hQ'
    refine l_impl_levels_4 _ _ _ _ _ _ _ _ _ _ ?_
    repeat' first|with_reducible intro _|simp only[hlt,Y1,Y2,Y3,Y4]|(with_reducible first|refine X1 ?_ ?_|refine X2 ?_ ?_|refine X3 ?_ ?_|refine X4 ?_ ?_|refine X5 ?_ ?_|refine X6 ?_ ?_|refine X7 ?_ ?_|refine X8 ?_ ?_|refine X9 ?_ ?_)|refine⟨_,_,_,rfl,?_⟩|refine⟨_,rfl,?_⟩|((with_reducible refine And.intro ?_ ?_);·first|omega|trivial|(show _=_;rfl)|((with_reducible refine And.intro ?_ ?_)<;>first|omega|trivial|(show _=_;rfl)))|fail
    exact Qb (hQ' _ (by omega)) (by simp [tmsLev])
   ·intro i x xs hat _ ih2 N' hN' hQ'
    have hb2 := hat.b
    refine l_impl_levels_4 _ _ _ _ _ _ _ _ _ _ ?_
    repeat' first|with_reducible intro _|simp only[hat.lt, hat.w, Int.toNat_natCast,Y1,Y2,Y3,Y4]|(with_reducible first|refine X1 ?_ ?_|refine X2 ?_ ?_|refine X3 ?_ ?_|refine X4 ?_ ?_|refine X5 ?_ ?_|refine X6 ?_ ?_|refine X7 ?_ ?_|refine X8 ?_ ?_|refine X9 ?_ ?_)|refine⟨_,_,_,rfl,?_⟩|refine⟨_,rfl,?_⟩|((with_reducible refine And.intro ?_ ?_);·first|omega|trivial|(show _=_;rfl)|((with_reducible refine And.intro ?_ ?_)<;>first|omega|trivial|(show _=_;rfl)))|refine (c_partLevel hb) _ _ ?_|refine (ih x hat.m _ hat.r _) _ _ ?_|fail
    ·refine Qb (hQ' _ (by omega)) ?_; simp [tmsLev, *]
    ·exact ih2 _ (by omega) fun N'' h => Qb (hQ' N'' (by omega)) (by simp [tmsLev, *])
theorem c_impl_LevelsOk (t : Tm) (d : D) (hd : t.Is d) (hc : t.cnt ≤ 1073741824) (m : Int) : RetB 149 [.dg 9 d, .int .i64 m] (levOk t m) := fun N Q hQ => by
 refine w_impl_LevelsOk N _ m Q fun _ => ?_
 repeat' first|with_reducible intro _|simp only[Y1,Y2,Y3,Y4]|(with_reducible first|refine X1 ?_ ?_|refine X2 ?_ ?_|refine X3 ?_ ?_|refine X4 ?_ ?_|refine X5 ?_ ?_|refine X6 ?_ ?_|refine X7 ?_ ?_|refine X8 ?_ ?_|refine X9 ?_ ?_)|refine⟨_,_,_,rfl,?_⟩|refine⟨_,rfl,?_⟩|((with_reducible refine And.intro ?_ ?_);·first|omega|trivial|(show _=_;rfl)|((with_reducible refine And.intro ?_ ?_)<;>first|omega|trivial|(show _=_;rfl)))|refine (c_impl_IsTerm t d hd hc) _ _ ?_|refine (c_levels t d hd m) _ _ ?_|fail
 all_goals (refine Qb (hQ _ (by omega)) ?_; simp [levOk, *])
theorem c_IsCtx_1 (x : Tg) (d : D) (hd : x.Is d) (hc : x.ty.cnt ≤ 1073741824) : RetB 189 [.dg 4 d] (!x.ok) := fun N Q hQ => by
 obtain ⟨t0, t1, rfl, hs, ht⟩ := hd
 refine w_impl_IsCtx_1 N _ Q fun _ => ?_
 repeat' first|with_reducible intro _|simp only[Y1,Y2,Y3,Y4]|(with_reducible first|refine X1 ?_ ?_|refine X2 ?_ ?_|refine X3 ?_ ?_|refine X4 ?_ ?_|refine X5 ?_ ?_|refine X6 ?_ ?_|refine X7 ?_ ?_|refine X8 ?_ ?_|refine X9 ?_ ?_)|refine⟨_,_,_,rfl,?_⟩|refine⟨_,rfl,?_⟩|((with_reducible refine And.intro ?_ ?_);·first|omega|trivial|(show _=_;rfl)|((with_reducible refine And.intro ?_ ?_)<;>first|omega|trivial|(show _=_;rfl)))|refine (c_impl_IsName _ hs) _ _ ?_|refine (c_impl_IsValidType _ _ ht hc) _ _ ?_|refine (c_impl_within _ _ _) _ _ ?_|fail
 all_goals (refine Qb (hQ _ (by omega)) ?_; simp [Tg.ok, *])
theorem tgsOk_any : ∀ l : List Tg, tgsOk l = !(l.any fun x => !x.ok)
 | [] => rfl
 | t :: ts => by simp only [tgsOk, List.any_cons, tgsOk_any ts]; cases t.ok <;> simp
theorem c_impl_IsCtx {g : List Tg} {es : List D} (h : Ctx g es) (hc : ∀ x ∈ g, x.ty.cnt ≤ 1073741824) (a : Option Addr) (c : Nat) : RetB 148 [.sv a 4 es c] (ctxOk g) := fun N Q hQ => by
 have hl := h.all.len
 have hi : RetI 229 [.sv a 4 es c, .fn 189 []] (idxF (fun x => !x.ok) g 0) := fun N Q hQ => by
  refine w_slices_IndexFunc_Typing_i0 N a es c Q fun _ => ?_
  refine up h.all h.len (fun i xs => ∀ (N' : Nat), N ≤ N' → (∀ N'', N' ≤ N'' → Q (idxF (fun x => !x.ok) xs i) N'') → L_slices_IndexFunc_Typing_2 Q N a es c es.length i N') ?_ ?_ N (Nat.le_refl _) hQ
  ·intro i hlt _ N' hN' hQ'
   refine l_slices_IndexFunc_Typing_2 _ _ _ _ _ _ _ _ ?_
   repeat' first|with_reducible intro _|simp only[hlt,Y1,Y2,Y3,Y4]|(with_reducible first|refine X1 ?_ ?_|refine X2 ?_ ?_|refine X3 ?_ ?_|refine X4 ?_ ?_|refine X5 ?_ ?_|refine X6 ?_ ?_|refine X7 ?_ ?_|refine X8 ?_ ?_|refine X9 ?_ ?_)|refine⟨_,_,_,rfl,?_⟩|refine⟨_,rfl,?_⟩|((with_reducible refine And.intro ?_ ?_);·first|omega|trivial|(show _=_;rfl)|((with_reducible refine And.intro ?_ ?_)<;>first|omega|trivial|(show _=_;rfl)))|fail
   exact hQ' _ (by omega)
  ·intro i x xs hat _ ih2 N' hN' hQ'
   have hb := hat.b
   simp only [idxF] at hQ'
   refine l_slices_IndexFunc_Typing_2 _ _ _ _ _ _ _ _ ?_
   repeat' first|with_reducible intro _|simp only[hat.lt, hat.w, Int.toNat_natCast,Y1,Y2,Y3,Y4]|(with_reducible first|refine X1 ?_ ?_|refine X2 ?_ ?_|refine X3 ?_ ?_|refine X4 ?_ ?_|refine X5 ?_ ?_|refine X6 ?_ ?_|refine X7 ?_ ?_|refine X8 ?_ ?_|refine X9 ?_ ?_)|refine⟨_,_,_,rfl,?_⟩|refine⟨_,rfl,?_⟩|((with_reducible refine And.intro ?_ ?_);·first|omega|trivial|(show _=_;rfl)|((with_reducible refine And.intro ?_ ?_)<;>first|omega|trivial|(show _=_;rfl)))|refine (c_IsCtx_1 x _ hat.r (hc x hat.m)) _ _ ?_|fail
   all_goals first
    | exact Qi (hQ' _ (by omega)) (by rw [if_pos (by simp [*])])
    | exact ih2 _ (by omega) fun N'' h2 => Qi (hQ' _ (by omega)) (by rw [if_neg (by simp [*])]; simp)
 have hcf : RetB 188 [.sv a 4 es c, .fn 189 []] (g.any fun x => !x.ok) := fun N Q hQ => by
  refine w_slices_ContainsFunc_Typing_i0 N a es c Q fun _ => ?_
  repeat' first|with_reducible intro _|simp only[Y1,Y2,Y3,Y4]|(with_reducible first|refine X1 ?_ ?_|refine X2 ?_ ?_|refine X3 ?_ ?_|refine X4 ?_ ?_|refine X5 ?_ ?_|refine X6 ?_ ?_|refine X7 ?_ ?_|refine X8 ?_ ?_|refine X9 ?_ ?_)|refine⟨_,_,_,rfl,?_⟩|refine⟨_,rfl,?_⟩|((with_reducible refine And.intro ?_ ?_);·first|omega|trivial|(show _=_;rfl)|((with_reducible refine And.intro ?_ ?_)<;>first|omega|trivial|(show _=_;rfl)))|refine hi _ _ ?_|fail
  exact Qb (hQ _ (by omega)) (idxF_any _ g 0 (by omega)).symm
 refine w_impl_IsCtx N a es c Q fun _ => ?_
 repeat' first|with_reducible intro _|simp only[Y1,Y2,Y3,Y4]|(with_reducible first|refine X1 ?_ ?_|refine X2 ?_ ?_|refine X3 ?_ ?_|refine X4 ?_ ?_|refine X5 ?_ ?_|refine X6 ?_ ?_|refine X7 ?_ ?_|refine X8 ?_ ?_|refine X9 ?_ ?_)|refine⟨_,_,_,rfl,?_⟩|refine⟨_,rfl,?_⟩|((with_reducible refine And.intro ?_ ?_);·first|omega|trivial|(show _=_;rfl)|((with_reducible refine And.intro ?_ ?_)<;>first|omega|trivial|(show _=_;rfl)))|refine hcf _ _ ?_|fail
 ·exact Qb (hQ _ (by omega)) (by have : (g.length : Int) ≤ 12 := by omega
                                 simp [ctxOk, tgsOk_any, this])
 ·exact Qb (hQ _ (by omega)) (by have : ¬ (g.length : Int) ≤ 12 := by omega
                                 simp [ctxOk, this])
theorem c_counting {g : List Tg} {es : List D} (h : Ctx g es) (a : Option Addr) (c : Nat) (s : ByteArray) : RetI 200 [.sv a 4 es c, .str s] (lastIx g s) := fun N Q hQ => by
 have hl := h.all.len
 have h1 := h.len
 refine w_impl_counting N a es c s Q fun _ => ?_
 have key := down h.all h.len (fun m => ∀ (N' : Nat), N ≤ N' → (∀ N'', N' ≤ N'' → Q (lastTo g s (m + 1).toNat) N'') → L_impl_counting_2 Q N a es c s m N') ?_ ?_
 ·rw [i64_in _ (by omega)]
  exact key N (Nat.le_refl _) fun N' hN' => Qi (hQ N' hN') (by rw [lastIx, ← hl]; congr 1; omega)
 ·intro N' hN' hQ'
  refine l_impl_counting_2 _ _ _ _ _ _ _ _ ?_
  repeat' first|with_reducible intro _|simp only[Y1,Y2,Y3,Y4]|(with_reducible first|refine X1 ?_ ?_|refine X2 ?_ ?_|refine X3 ?_ ?_|refine X4 ?_ ?_|refine X5 ?_ ?_|refine X6 ?_ ?_|refine X7 ?_ ?_|refine X8 ?_ ?_|refine X9 ?_ ?_)|refine⟨_,_,_,rfl,?_⟩|refine⟨_,rfl,?_⟩|((with_reducible refine And.intro ?_ ?_);·first|omega|trivial|(show _=_;rfl)|((with_reducible refine And.intro ?_ ?_)<;>first|omega|trivial|(show _=_;rfl)))|fail
  ·omega
  ·exact hQ' _ (by assumption)
 ·intro i x hat hge hw ih N' hN' hQ'
  have hb := hat.b
  obtain ⟨t0, t1, hd, hs, ht⟩ := hat.r
  have e1 : ((i : Int) + 1).toNat = i + 1 := by omega
  have e2 : ((i : Int) - 1 + 1).toNat = i := by omega
  rw [e1] at hQ'
  simp only [lastTo, getD_of hat.g] at hQ'
  rw [e2] at ih
  refine l_impl_counting_2 _ _ _ _ _ _ _ _ ?_
  repeat' first|with_reducible intro _|simp only[hge, hw, Int.toNat_natCast, hd,Y1,Y2,Y3,Y4]|(with_reducible first|refine X1 ?_ ?_|refine X2 ?_ ?_|refine X3 ?_ ?_|refine X4 ?_ ?_|refine X5 ?_ ?_|refine X6 ?_ ?_|refine X7 ?_ ?_|refine X8 ?_ ?_|refine X9 ?_ ?_)|refine⟨_,_,_,rfl,?_⟩|refine⟨_,rfl,?_⟩|((with_reducible refine And.intro ?_ ?_);·first|omega|trivial|(show _=_;rfl)|((with_reducible refine And.intro ?_ ?_)<;>first|omega|trivial|(show _=_;rfl)))|fail
  ·rename_i hx _ _; exact Qi (hQ' _ (by omega)) (by rw [if_pos hx])
  ·rename_i hx; exact ih _ (by omega) fun N'' h => Qi (hQ' N'' (by omega)) (by rw [if_neg hx])
end Go.Proofs.YtfkmegifjiiclaaGreat
