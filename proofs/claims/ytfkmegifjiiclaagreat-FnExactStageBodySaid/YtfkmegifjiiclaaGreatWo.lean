/- Bodies, as the program has them. -/
import Derived.Test.YtfkmegifjiiclaaGreatWn
import Derived.Test.YtfkmegifjiiclaaGreatWm
set_option linter.unusedVariables false
set_option linter.unusedSimpArgs false
namespace Go.Proofs.YtfkmegifjiiclaaGreat
open Go Go.Proofs Go.Proofs.Tryz Go.IntWalk

theorem c_impl_SizeOf : ∀ (t : Tm) (d : D), t.Is d → t.cnt ≤ 1073741824 → RetI 57 [.dg 9 d] t.sz := by
 refine Tm.ind fun k nm ot n0 ty re l ih d hd hc N Q hQ => ?_
 obtain ⟨t0, t1, r0, r1, a, es, c, rfl, hh, hlen, hes⟩ := Tm.is_mk.1 hd
 simp only [Tm.cnt] at hc
 have hsl := tmsSz_cnt l
 refine w_impl_SizeOf N _ Q fun _ => ⟨_, _, _, rfl, ?_⟩
 refine up hes hlen (fun i xs => ∀ (m : Nat) (N' : Nat), N ≤ N' → m + tmsSz xs = 1 + tmsSz l → L_impl_SizeOf_3 Q N m a es c es.length i N') ?_ ?_ 1 N (Nat.le_refl _) rfl
 ·intro i hlt _ m N' hN' hm
  refine l_impl_SizeOf_3 _ _ _ _ _ _ _ _ _ ?_
  simp only [tmsSz] at hm
  repeat' first|with_reducible intro _|simp only[hlt,Y1,Y2,Y3,Y4]|(with_reducible first|refine X1 ?_ ?_|refine X2 ?_ ?_|refine X3 ?_ ?_|refine X4 ?_ ?_|refine X5 ?_ ?_|refine X6 ?_ ?_|refine X7 ?_ ?_|refine X8 ?_ ?_|refine X9 ?_ ?_)|refine⟨_,_,_,rfl,?_⟩|refine⟨_,rfl,?_⟩|((with_reducible refine And.intro ?_ ?_);·first|omega|trivial|(show _=_;rfl)|((with_reducible refine And.intro ?_ ?_)<;>first|omega|trivial|(show _=_;rfl)))|fail
  exact Qi (hQ _ (by omega)) (by simp only [Tm.sz]; omega)
 ·intro i x xs hat _ ih2 m N' hN' hm
  have hb := hat.b
  have hxc := tms_mem_cnt hat.m
  simp only [tmsSz] at hm
  refine l_impl_SizeOf_3 _ _ _ _ _ _ _ _ _ ?_
  repeat' first|with_reducible intro _|simp only[hat.lt, hat.w, Int.toNat_natCast,Y1,Y2,Y3,Y4]|(with_reducible first|refine X1 ?_ ?_|refine X2 ?_ ?_|refine X3 ?_ ?_|refine X4 ?_ ?_|refine X5 ?_ ?_|refine X6 ?_ ?_|refine X7 ?_ ?_|refine X8 ?_ ?_|refine X9 ?_ ?_)|refine⟨_,_,_,rfl,?_⟩|refine⟨_,rfl,?_⟩|((with_reducible refine And.intro ?_ ?_);·first|omega|trivial|(show _=_;rfl)|((with_reducible refine And.intro ?_ ?_)<;>first|omega|trivial|(show _=_;rfl)))|refine (ih x hat.m _ hat.r (by omega)) _ _ ?_|fail
  rw [i64_in _ (by omega)]
  exact ih2 (m + x.sz) _ (by omega) (by omega)
theorem c_impl_DepthOf : ∀ (t : Tm) (d : D), t.Is d → t.cnt ≤ 1073741824 → RetI 147 [.dg 9 d] t.dp := by
 refine Tm.ind fun k nm ot n0 ty re l ih d hd hc N Q hQ => ?_
 obtain ⟨t0, t1, r0, r1, a, es, c, rfl, hh, hlen, hes⟩ := Tm.is_mk.1 hd
 simp only [Tm.cnt] at hc
 have hdl := tmsDp_cnt l
 refine w_impl_DepthOf N _ Q fun _ => ⟨_, _, _, rfl, ?_⟩
 refine up hes hlen (fun i xs => ∀ (m : Nat) (N' : Nat), N ≤ N' → max m (tmsDp xs) = tmsDp l → L_impl_DepthOf_3 Q N m a es c es.length i N') ?_ ?_ 0 N (Nat.le_refl _) (by omega)
 ·intro i hlt _ m N' hN' hm
  refine l_impl_DepthOf_3 _ _ _ _ _ _ _ _ _ ?_
  simp only [tmsDp] at hm
  repeat' first|with_reducible intro _|simp only[hlt,Y1,Y2,Y3,Y4]|(with_reducible first|refine X1 ?_ ?_|refine X2 ?_ ?_|refine X3 ?_ ?_|refine X4 ?_ ?_|refine X5 ?_ ?_|refine X6 ?_ ?_|refine X7 ?_ ?_|refine X8 ?_ ?_|refine X9 ?_ ?_)|refine⟨_,_,_,rfl,?_⟩|refine⟨_,rfl,?_⟩|((with_reducible refine And.intro ?_ ?_);·first|omega|trivial|(show _=_;rfl)|((with_reducible refine And.intro ?_ ?_)<;>first|omega|trivial|(show _=_;rfl)))|fail
  rw [i64_in _ (by omega)]
  exact Qi (hQ _ (by omega)) (by simp only [Tm.dp]; omega)
 ·intro i x xs hat _ ih2 m N' hN' hm
  have hb := hat.b
  have hxc := tms_mem_cnt hat.m
  simp only [tmsDp] at hm
  refine l_impl_DepthOf_3 _ _ _ _ _ _ _ _ _ ?_
  repeat' first|with_reducible intro _|simp only[hat.lt, hat.w, Int.toNat_natCast,Y1,Y2,Y3,Y4]|(with_reducible first|refine X1 ?_ ?_|refine X2 ?_ ?_|refine X3 ?_ ?_|refine X4 ?_ ?_|refine X5 ?_ ?_|refine X6 ?_ ?_|refine X7 ?_ ?_|refine X8 ?_ ?_|refine X9 ?_ ?_)|refine⟨_,_,_,rfl,?_⟩|refine⟨_,rfl,?_⟩|((with_reducible refine And.intro ?_ ?_);·first|omega|trivial|(show _=_;rfl)|((with_reducible refine And.intro ?_ ?_)<;>first|omega|trivial|(show _=_;rfl)))|refine (ih x hat.m _ hat.r (by omega)) _ _ ?_|fail
  have e : (if (x.dp : Int) > (m : Int) then (x.dp : Int) else (m : Int)) = ((max m x.dp : Nat) : Int) := by split <;> omega
  rw [e]
  exact ih2 (max m x.dp) _ (by omega) (by omega)
theorem c_impl_IsValidTerm (t : Tm) (d : D) (hd : t.Is d) (hc : t.cnt ≤ 1073741824) : RetB 99 [.dg 9 d] t.vd := fun N Q hQ => by
 refine w_impl_IsValidTerm N _ Q fun _ => ?_
 repeat' first|with_reducible intro _|simp only[Y1,Y2,Y3,Y4]|(with_reducible first|refine X1 ?_ ?_|refine X2 ?_ ?_|refine X3 ?_ ?_|refine X4 ?_ ?_|refine X5 ?_ ?_|refine X6 ?_ ?_|refine X7 ?_ ?_|refine X8 ?_ ?_|refine X9 ?_ ?_)|refine⟨_,_,_,rfl,?_⟩|refine⟨_,rfl,?_⟩|((with_reducible refine And.intro ?_ ?_);·first|omega|trivial|(show _=_;rfl)|((with_reducible refine And.intro ?_ ?_)<;>first|omega|trivial|(show _=_;rfl)))|refine (c_impl_IsTerm t d hd hc) _ _ ?_|refine (c_impl_SizeOf t d hd hc) _ _ ?_|refine (c_impl_DepthOf t d hd hc) _ _ ?_|fail
 ·have h8 : t.sz ≤ 80 := by omega
  refine Qb (hQ _ (by omega)) ?_
  have : decide ((t.dp : Int) ≤ 20) = decide (t.dp ≤ 20) := by rw [Bool.eq_iff_iff, decide_eq_true_iff, decide_eq_true_iff]; omega
  simp [Tm.vd, *]
 ·have h8 : ¬ t.sz ≤ 80 := by omega
  refine Qb (hQ _ (by omega)) ?_; simp [Tm.vd, *]
 ·refine Qb (hQ _ (by omega)) ?_; simp [Tm.vd, *]
theorem c_BodyType_1 (t : Tm) (d : D) (hd : t.Is d) : RetB 96 [.dg 9 d] (match t with | .mk k _ _ _ _ _ _ => bodyK k) := fun N Q hQ => by
 cases t with
 | mk k nm ot n0 ty re l =>
 obtain ⟨t0, t1, r0, r1, a, es, c, rfl, hh, hlen, hes⟩ := Tm.is_mk.1 hd
 refine w_impl_BodyType_1 N _ Q fun _ => ?_
 repeat' first|with_reducible intro _|simp only[Y1,Y2,Y3,Y4]|(with_reducible first|refine X1 ?_ ?_|refine X2 ?_ ?_|refine X3 ?_ ?_|refine X4 ?_ ?_|refine X5 ?_ ?_|refine X6 ?_ ?_|refine X7 ?_ ?_|refine X8 ?_ ?_|refine X9 ?_ ?_)|refine⟨_,_,_,rfl,?_⟩|refine⟨_,rfl,?_⟩|((with_reducible refine And.intro ?_ ?_);·first|omega|trivial|(show _=_;rfl)|((with_reducible refine And.intro ?_ ?_)<;>first|omega|trivial|(show _=_;rfl)))|refine (c_impl_within _ _ _) _ _ ?_|fail
 all_goals (refine Qb (hQ _ (by omega)) ?_; simp [bodyK, *])
theorem c_Contains_TermB {p : Tm → Bool} {l : List Tm} {es : List D} (h : All2 Tm.Is l es) (hlen : es.length ≤ 4611686018427387904) (ad : Addr) (hp : ∀ x ∈ l, ∀ d, x.Is d → RetB 142 [.dg 9 d, .pd ad 0 (.fn 96 [])] (p x)) (a : Option Addr) (c : Nat) :
  RetB 80 [.sv a 9 es c, .fn 142 [.pd ad 0 (.fn 96 [])]] (l.any p) := fun N Q hQ => by
 have hi : RetI 132 [.sv a 9 es c, .fn 142 [.pd ad 0 (.fn 96 [])]] (idxF p l 0) := fun N Q hQ => by
  refine w_slices_IndexFunc_Term_i0b N a es c ad Q fun _ => ?_
  refine up h hlen (fun i xs => ∀ (N' : Nat), N ≤ N' → (∀ N'', N' ≤ N'' → Q (idxF p xs i) N'') → L_slices_IndexFunc_Term_2b Q N a es c ad es.length i N') ?_ ?_ N (Nat.le_refl _) hQ
  ·intro i hlt _ N' hN' hQ'
   refine l_slices_IndexFunc_Term_2b _ _ _ _ _ _ _ _ _ ?_
   repeat' first|with_reducible intro _|simp only[hlt,Y1,Y2,Y3,Y4]|(with_reducible first|refine X1 ?_ ?_|refine X2 ?_ ?_|refine X3 ?_ ?_|refine X4 ?_ ?_|refine X5 ?_ ?_|refine X6 ?_ ?_|refine X7 ?_ ?_|refine X8 ?_ ?_|refine X9 ?_ ?_)|refine⟨_,_,_,rfl,?_⟩|refine⟨_,rfl,?_⟩|((with_reducible refine And.intro ?_ ?_);·first|omega|trivial|(show _=_;rfl)|((with_reducible refine And.intro ?_ ?_)<;>first|omega|trivial|(show _=_;rfl)))|fail
   exact hQ' _ (by omega)
  ·intro i x xs hat _ ih2 N' hN' hQ'
   have hb := hat.b
   simp only [idxF] at hQ'
   refine l_slices_IndexFunc_Term_2b _ _ _ _ _ _ _ _ _ ?_
   repeat' first|with_reducible intro _|simp only[hat.lt, hat.w, Int.toNat_natCast,Y1,Y2,Y3,Y4]|(with_reducible first|refine X1 ?_ ?_|refine X2 ?_ ?_|refine X3 ?_ ?_|refine X4 ?_ ?_|refine X5 ?_ ?_|refine X6 ?_ ?_|refine X7 ?_ ?_|refine X8 ?_ ?_|refine X9 ?_ ?_)|refine⟨_,_,_,rfl,?_⟩|refine⟨_,rfl,?_⟩|((with_reducible refine And.intro ?_ ?_);·first|omega|trivial|(show _=_;rfl)|((with_reducible refine And.intro ?_ ?_)<;>first|omega|trivial|(show _=_;rfl)))|refine (hp x hat.m _ hat.r) _ _ ?_|fail
   ·exact Qi (hQ' _ (by omega)) (by rw [if_pos (by assumption)])
   ·rename_i h; exact ih2 _ (by omega) fun N'' h2 => Qi (hQ' _ (by omega)) (by rw [h]; simp)
 refine w_slices_ContainsFunc_Term_i0b N a es c ad Q fun _ => ?_
 repeat' first|with_reducible intro _|simp only[Y1,Y2,Y3,Y4]|(with_reducible first|refine X1 ?_ ?_|refine X2 ?_ ?_|refine X3 ?_ ?_|refine X4 ?_ ?_|refine X5 ?_ ?_|refine X6 ?_ ?_|refine X7 ?_ ?_|refine X8 ?_ ?_|refine X9 ?_ ?_)|refine⟨_,_,_,rfl,?_⟩|refine⟨_,rfl,?_⟩|((with_reducible refine And.intro ?_ ?_);·first|omega|trivial|(show _=_;rfl)|((with_reducible refine And.intro ?_ ?_)<;>first|omega|trivial|(show _=_;rfl)))|refine hi _ _ ?_|fail
 exact Qb (hQ _ (by omega)) (idxF_any _ l 0 (by omega)).symm
theorem tmsB_any : ∀ l : List Tm, tmsB l = !(l.any fun x => !x.isB)
 | [] => rfl
 | t :: ts => by simp only [tmsB, List.any_cons, tmsB_any ts]; cases t.isB <;> simp
theorem c_allTermsB : ∀ (t : Tm) (d : D), t.Is d → RetB 95 [.dg 9 d, .fn 96 []] t.isB := by
 refine Tm.ind fun k nm ot n ty re l ih d hd N Q hQ => ?_
 have hb := c_BodyType_1 _ d hd
 obtain ⟨t0, t1, r0, r1, a, es, c, rfl, hh, hlen, hes⟩ := Tm.is_mk.1 hd
 simp only at hb
 refine w_impl_allTerms_i0b N _ Q fun _ => ?_
 simp only [Tm.isB, tmsB_any] at hQ
 repeat' first|with_reducible intro _|simp only[Y1,Y2,Y3,Y4]|(with_reducible first|refine X1 ?_ ?_|refine X2 ?_ ?_|refine X3 ?_ ?_|refine X4 ?_ ?_|refine X5 ?_ ?_|refine X6 ?_ ?_|refine X7 ?_ ?_|refine X8 ?_ ?_|refine X9 ?_ ?_)|refine⟨_,_,_,rfl,?_⟩|refine⟨_,rfl,?_⟩|((with_reducible refine And.intro ?_ ?_);·first|omega|trivial|(show _=_;rfl)|((with_reducible refine And.intro ?_ ?_)<;>first|omega|trivial|(show _=_;rfl)))|refine hb _ _ ?_|refine (c_Contains_TermB hes hlen _ (fun x hx d hd => fun N Q hQ => w_impl_allTerms_1_i0b N d _ Q fun _ N1 hN1 => ih x hx d hd N1 _ fun N2 hN2 hle N3 hN3 => hQ N3 (by omega)) _ _) _ _ ?_|fail
 all_goals (refine Qb (hQ _ (by omega)) ?_; simp [*])
theorem c_impl_IndexOf (l : List ByteArray) (hl : l.length ≤ 4611686018427387904) (a : Option Addr) (c : Nat) (s : ByteArray) : RetI 145 [.sv a 0 (wordsD l) c, .str s] (idxF (fun x => decide (s = x)) l 0) := fun N Q hQ => by
 refine w_impl_IndexOf N a _ c s Q fun _ => ?_
 repeat' first|with_reducible intro _|simp only[Y1,Y2,Y3,Y4]|(with_reducible first|refine X1 ?_ ?_|refine X2 ?_ ?_|refine X3 ?_ ?_|refine X4 ?_ ?_|refine X5 ?_ ?_|refine X6 ?_ ?_|refine X7 ?_ ?_|refine X8 ?_ ?_|refine X9 ?_ ?_)|refine⟨_,_,_,rfl,?_⟩|refine⟨_,rfl,?_⟩|((with_reducible refine And.intro ?_ ?_);·first|omega|trivial|(show _=_;rfl)|((with_reducible refine And.intro ?_ ?_)<;>first|omega|trivial|(show _=_;rfl)))|refine (c_Index_str l hl a c s) _ _ ?_|fail
 exact hQ _ (by omega)
def nmsOf (g : List Pm) : List ByteArray := g.map (·.nm)
theorem nmsOf_len (g : List Pm) : (nmsOf g).length = g.length := by simp [nmsOf]
theorem c_paramNames {g : List Pm} {es : List D} (h : Pms g es) (hg : g.length ≤ 1073741824) (a : Option Addr) (c : Nat) (N : Nat) (Q : QT [.sl 0])
  (hQ : ∀ a' c' N', N ≤ N' → Q a' (wordsD (nmsOf g)) c' N') : ACalls prog 77 [.sl 0] [.sv a 4 es c] N Q := by
 have hl := h.all.len
 refine w_impl_paramNames N a es c Q fun _ => ?_
 have key := up h.all h.len (fun i xs => ∀ (q : Nat) (N' : Nat), N ≤ N' → L_impl_paramNames_3 Q N (wordsD ((nmsOf g).take i)).length q a es c es.length i (wordsD ((nmsOf g).take i)) q N') ?_ ?_
 ·exact key 0 N (Nat.le_refl _)
 ·intro i hlt hi q N' hN'
  refine l_impl_paramNames_3 _ _ _ _ _ _ _ _ _ _ _ _ ?_
  rw [List.take_of_length_le (by rw [nmsOf_len]; omega)]
  repeat' first|with_reducible intro _|simp only[hlt,Y1,Y2,Y3,Y4]|(with_reducible first|refine X1 ?_ ?_|refine X2 ?_ ?_|refine X3 ?_ ?_|refine X4 ?_ ?_|refine X5 ?_ ?_|refine X6 ?_ ?_|refine X7 ?_ ?_|refine X8 ?_ ?_|refine X9 ?_ ?_)|refine⟨_,_,_,rfl,?_⟩|refine⟨_,rfl,?_⟩|((with_reducible refine And.intro ?_ ?_);·first|omega|trivial|(show _=_;rfl)|((with_reducible refine And.intro ?_ ?_)<;>first|omega|trivial|(show _=_;rfl)))|fail
  exact hQ _ _ _ (by omega)
 ·intro i x xs hat _ ih2 q N' hN'
  have hb := hat.b
  have hm := hat.m
  obtain ⟨t0, t1, hd', hnm, hty⟩ := hat.r
  refine l_impl_paramNames_3 _ _ _ _ _ _ _ _ _ _ _ _ ?_
  have hat2 : (nmsOf g)[i]? = some x.nm := by rw [nmsOf, List.getElem?_map, hat.g]; rfl
  repeat' first|with_reducible intro _|simp only[hat.lt, hat.w, Int.toNat_natCast, hd',Y1,Y2,Y3,Y4]|(with_reducible first|refine X1 ?_ ?_|refine X2 ?_ ?_|refine X3 ?_ ?_|refine X4 ?_ ?_|refine X5 ?_ ?_|refine X6 ?_ ?_|refine X7 ?_ ?_|refine X8 ?_ ?_|refine X9 ?_ ?_)|refine⟨_,_,_,rfl,?_⟩|refine⟨_,rfl,?_⟩|((with_reducible refine And.intro ?_ ?_);·first|omega|trivial|(show _=_;rfl)|((with_reducible refine And.intro ?_ ?_)<;>first|omega|trivial|(show _=_;rfl)))|fail
  refine ⟨by unfold apBound; rw [List.length_append, wordsD_len, List.length_take]; simp only [List.length_cons, List.length_nil]; omega, fun c1 => ?_⟩
  rw [wordsD_snoc, ← take_at hat2]
  exact ih2 _ _ hN'
theorem idxF_split {α : Type} (p : α → Bool) (s : α) (hs : p s = true) (rest : List α) : ∀ (seen : List α) (k : Int), (idxF p (seen ++ s :: rest) k = k + seen.length ↔ seen.any p = false) ∧ idxF p (seen ++ s :: rest) k ≥ k
 | [], k => by simp [idxF, hs]
 | x :: seen, k => by
   have ih := idxF_split p s hs rest seen (k + 1)
   simp only [List.cons_append, idxF, List.any_cons, List.length_cons]
   cases hx : p x with
   | true => simp; omega
   | false =>
     simp only [Bool.false_eq_true, if_false, Bool.false_or]
     refine ⟨?_, by omega⟩
     rw [← ih.1]; constructor <;> intro h <;> omega
theorem any_comm {s : ByteArray} (l : List ByteArray) : (l.any fun x => decide (s = x)) = l.any fun x => decide (x = s) := by
 induction l with
 | nil => rfl
 | cons x l ih => simp only [List.any_cons, ih, eq_comm]
theorem c_impl_AreParams {g : List Pm} {es : List D} (h : Pms g es) (hg : g.length ≤ 1073741824) (a : Option Addr) (c : Nat) : RetB 98 [.sv a 4 es c] (pmsOk g) := fun N Q hQ => by
 have hl := h.all.len
 refine w_impl_AreParams N a es c Q fun _ => ?_
 have hnl := nmsOf_len g
 have key := fun (h5 : g.length ≤ 5) a3 c3 (N2 : Nat) (hN2 : N ≤ N2) => up h.all h.len (fun i xs => ∀ (N' : Nat), N2 ≤ N' → (∀ N'', N' ≤ N'' → Q (pmsGo ((nmsOf g).take i) xs) N'') → L_impl_AreParams_5 Q N a3 (wordsD (nmsOf g)) c3 a es c es.length i N') ?_ ?_
 ·repeat' first|with_reducible intro _|simp only[Y1,Y2,Y3,Y4]|(with_reducible first|refine X1 ?_ ?_|refine X2 ?_ ?_|refine X3 ?_ ?_|refine X4 ?_ ?_|refine X5 ?_ ?_|refine X6 ?_ ?_|refine X7 ?_ ?_|refine X8 ?_ ?_|refine X9 ?_ ?_)|refine⟨_,_,_,rfl,?_⟩|refine⟨_,rfl,?_⟩|((with_reducible refine And.intro ?_ ?_);·first|omega|trivial|(show _=_;rfl)|((with_reducible refine And.intro ?_ ?_)<;>first|omega|trivial|(show _=_;rfl)))|refine (c_paramNames h hg a c) _ _ ?_|fail
  ·refine Qb (hQ _ (by omega)) ?_
   have : ¬ g.length ≤ 5 := by omega
   simp [pmsOk, this]
  ·have h5 : g.length ≤ 5 := by omega
   refine key h5 _ _ _ ?_ _ (Nat.le_refl _) fun N'' hN'' => Qb (hQ N'' ?_) ?_
   all_goals first | omega | skip
   simp [pmsOk, h5]
 ·intro i hlt hi N' hN' hQ'
  refine l_impl_AreParams_5 _ _ _ _ _ _ _ _ _ _ _ ?_
  repeat' first|with_reducible intro _|simp only[hlt,Y1,Y2,Y3,Y4]|(with_reducible first|refine X1 ?_ ?_|refine X2 ?_ ?_|refine X3 ?_ ?_|refine X4 ?_ ?_|refine X5 ?_ ?_|refine X6 ?_ ?_|refine X7 ?_ ?_|refine X8 ?_ ?_|refine X9 ?_ ?_)|refine⟨_,_,_,rfl,?_⟩|refine⟨_,rfl,?_⟩|((with_reducible refine And.intro ?_ ?_);·first|omega|trivial|(show _=_;rfl)|((with_reducible refine And.intro ?_ ?_)<;>first|omega|trivial|(show _=_;rfl)))|fail
  refine Qb (hQ' _ (by omega)) ?_
  simp [pmsGo]
 ·intro i x xs hat _ ih2 N' hN' hQ'
  have hb := hat.b
  have hm := hat.m
  obtain ⟨t0, t1, hd', hnm, hty⟩ := hat.r
  simp only [pmsGo] at hQ'
  have hat2 : (nmsOf g)[i]? = some x.nm := by rw [nmsOf, List.getElem?_map, hat.g]; rfl
  have hsp := (idxF_split (fun y => decide (x.nm = y)) x.nm (by simp) ((nmsOf g).drop (i + 1)) ((nmsOf g).take i) 0).1
  have hcut : (nmsOf g).take i ++ x.nm :: (nmsOf g).drop (i + 1) = nmsOf g := by
   have hlt : i < (nmsOf g).length := (List.getElem?_eq_some_iff.1 hat2).1
   have := (List.getElem?_eq_some_iff.1 hat2).2
   rw [← this, List.getElem_cons_drop, List.take_append_drop]
  rw [hcut, List.length_take, any_comm] at hsp
  have hmin : min i (nmsOf g).length = i := by omega
  rw [hmin] at hsp
  refine l_impl_AreParams_5 _ _ _ _ _ _ _ _ _ _ _ ?_
  repeat' first|with_reducible intro _|simp only[hat.lt, hat.w, Int.toNat_natCast, hd',Y1,Y2,Y3,Y4]|(with_reducible first|refine X1 ?_ ?_|refine X2 ?_ ?_|refine X3 ?_ ?_|refine X4 ?_ ?_|refine X5 ?_ ?_|refine X6 ?_ ?_|refine X7 ?_ ?_|refine X8 ?_ ?_|refine X9 ?_ ?_)|refine⟨_,_,_,rfl,?_⟩|refine⟨_,rfl,?_⟩|((with_reducible refine And.intro ?_ ?_);·first|omega|trivial|(show _=_;rfl)|((with_reducible refine And.intro ?_ ?_)<;>first|omega|trivial|(show _=_;rfl)))|refine (c_impl_IsName x.nm hnm) _ _ ?_|refine (c_impl_IsBase x.ty _ hty) _ _ ?_|refine (c_impl_IndexOf (nmsOf g) (by omega) _ _ x.nm) _ _ ?_|fail
  ·refine Qb (hQ' _ (by omega)) ?_; simp [*]
  ·refine Qb (hQ' _ (by omega)) ?_; simp [*]
  ·rename_i hx _ _
   have hx2 : ¬ ((nmsOf g).take i).any (fun y => decide (y = x.nm)) = false := fun hc => by have := hsp.2 hc; omega
   have hx3 : ((nmsOf g).take i).any (fun y => decide (y = x.nm)) = true := by simpa using hx2
   refine Qb (hQ' _ (by omega)) ?_
   rw [hx3]; simp
  ·rename_i hx
   have hx2 : ((nmsOf g).take i).any (fun y => decide (y = x.nm)) = false := hsp.1 (by omega)
   refine ih2 _ (by omega) fun N'' h2 => Qb (hQ' N'' (by omega)) ?_
   rw [hx2, take_at hat2]; simp [*]
theorem off_ownA {N N' M : Nat} {a : Option Addr} {d : D} (hb : BelA M [a]) (h : Own N N' d) (hM : M ≤ N) : Off [a] d := fun b hbm ad had hc => by
 have := h.lo _ hc
 have := hb b hbm ad had
 omega
theorem ctxOf_ok {g : List Pm} (hp : pmsOk g = true) : ctxOk (ctxOf g) = true := by
 simp only [pmsOk, Bool.and_eq_true, decide_eq_true_eq] at hp
 simp only [ctxOk, Bool.and_eq_true, decide_eq_true_eq, ctxOf_len]
 refine ⟨?_, by omega⟩
 have : ∀ l : List Pm, (∀ x ∈ l, isName x.nm = true ∧ x.ty.base = true) → tgsOk (ctxOf l) = true := by
  intro l
  induction l with
  | nil => intro _; rfl
  | cons p l ih =>
    intro h
    have h1 := h p (by simp)
    have h2 := ih fun x hx => h x (by simp [hx])
    simp only [ctxOf] at h2
    simp only [ctxOf, List.map_cons, tgsOk, Tg.ok, Bool.and_eq_true, h2, and_true]
    exact ⟨h1.1, (base_valid h1.2).1, by decide⟩
 exact this g fun x hx => pmsGo_mem hp.1 hx
theorem bodyTy_eq {g : List Pm} {e : Tm} (hp : pmsOk g = true) (hv : e.vd = true) (hb : e.isB = true) : bodyTy g e = typeOf (ctxOf g) e 0 := by
 have hv2 := hv
 simp only [Tm.vd, Bool.and_eq_true] at hv2
 rw [bodyTy, if_pos ⟨hp, hv, hb⟩, typeOf, if_pos ⟨ctxOf_ok hp, by simp [levOk, hv2.2, isB_lev e hb]⟩]
theorem c_impl_BodyType {g : List Pm} {es : List D} (h : Pms g es) (hg : g.length ≤ 1073741824) (hc2 : ∀ x ∈ g, x.ty.cnt ≤ 1073741824) {e : Tm} {d : D} (he : e.Is d) (hc : e.cnt ≤ 1048576000 / 2) (a : Option Addr) (c : Nat) : RetW 45 [.sv a 4 es c, .dg 9 d] (bodyTy g e) := fun N Q hQ => by
 have hl := h.all.len
 refine w_impl_BodyType N a es c d Q fun _ _ => ?_
 have key := fun (hp : pmsOk g = true) (hv : e.vd = true) (hb : e.isB = true) => up h.all h.len (fun i xs => ∀ (done : List D) (q : Nat) (N' : Nat), N ≤ N' → All2 Tg.Is ((ctxOf g).take i) done → done.length = i → L_impl_BodyType_6 Q N done.length q a es c es.length i d 0 none [] 0 done q N') ?_ ?_
 ·repeat' first|with_reducible intro _|simp only[Y1,Y2,Y3,Y4]|(with_reducible first|refine X1 ?_ ?_|refine X2 ?_ ?_|refine X3 ?_ ?_|refine X4 ?_ ?_|refine X5 ?_ ?_|refine X6 ?_ ?_|refine X7 ?_ ?_|refine X8 ?_ ?_|refine X9 ?_ ?_)|refine⟨_,_,_,rfl,?_⟩|refine⟨_,rfl,?_⟩|((with_reducible refine And.intro ?_ ?_);·first|omega|trivial|(show _=_;rfl)|((with_reducible refine And.intro ?_ ?_)<;>first|omega|trivial|(show _=_;rfl)))|refine (c_allTermsB e d he) _ _ ?_|refine (c_impl_AreParams h hg a c) _ _ ?_|refine (c_impl_IsValidTerm e d he (by omega)) _ _ ?_|fail
  ·rw [show bodyTy g e = none by unfold bodyTy; rw [if_neg (by simp [*])]] at hQ
   exact hQ _ _ (by omega) (is_nil 0) own_nil
  ·rw [show bodyTy g e = none by unfold bodyTy; rw [if_neg (by simp [*])]] at hQ
   exact hQ _ _ (by omega) (is_nil 0) own_nil
  ·rw [show bodyTy g e = none by unfold bodyTy; rw [if_neg (by simp [*])]] at hQ
   exact hQ _ _ (by omega) (is_nil 0) own_nil
  ·exact key (by assumption) (by assumption) (by assumption) [] 0 _ (by omega) rfl rfl
 ·intro i hlt hi done q N' hN' hd hs
  refine l_impl_BodyType_6 _ _ _ _ _ _ _ _ _ _ _ _ _ _ _ _ _ ?_
  rw [List.take_of_length_le (by rw [ctxOf_len]; omega)] at hd
  rw [bodyTy_eq hp hv hb] at hQ
  have hcg : ∀ x ∈ ctxOf g, x.ty.cnt ≤ 1073741824 := fun x hx => by obtain ⟨p, hpg, rfl⟩ := ctxOf_mem hx; exact hc2 p hpg
  repeat' first|with_reducible intro _|simp only[hlt,Y1,Y2,Y3,Y4]|(with_reducible first|refine X1 ?_ ?_|refine X2 ?_ ?_|refine X3 ?_ ?_|refine X4 ?_ ?_|refine X5 ?_ ?_|refine X6 ?_ ?_|refine X7 ?_ ?_|refine X8 ?_ ?_|refine X9 ?_ ?_)|refine⟨_,_,_,rfl,?_⟩|refine⟨_,rfl,?_⟩|((with_reducible refine And.intro ?_ ?_);·first|omega|trivial|(show _=_;rfl)|((with_reducible refine And.intro ?_ ?_)<;>first|omega|trivial|(show _=_;rfl)))|fail
  rename_i ad hapa hoff N1 hN1 hbel
  refine c_impl_TypeOf ⟨by omega, hd⟩ hcg he hc ad q 0 N1 _ fun x N2 hN2 hx hox _ => ?_
  exact ⟨off_ownA hbel hox (Nat.le_refl _), fun _ N3 hN3 => hQ _ _ (by omega) hx (hox.mono (by omega) hN3)⟩
 ·intro i x xs hat _ ih2 done q N' hN' hd hs
  have hb := hat.b
  have hm := hat.m
  obtain ⟨t0, t1, hd', hnm, hty⟩ := hat.r
  refine l_impl_BodyType_6 _ _ _ _ _ _ _ _ _ _ _ _ _ _ _ _ _ ?_
  have hat2 : (ctxOf g)[i]? = some ⟨x.nm, x.ty, 0⟩ := by rw [ctxOf, List.getElem?_map, hat.g]; rfl
  repeat' first|with_reducible intro _|simp only[hat.lt, hat.w, Int.toNat_natCast, hd',Y1,Y2,Y3,Y4]|(with_reducible first|refine X1 ?_ ?_|refine X2 ?_ ?_|refine X3 ?_ ?_|refine X4 ?_ ?_|refine X5 ?_ ?_|refine X6 ?_ ?_|refine X7 ?_ ?_|refine X8 ?_ ?_|refine X9 ?_ ?_)|refine⟨_,_,_,rfl,?_⟩|refine⟨_,rfl,?_⟩|((with_reducible refine And.intro ?_ ?_);·first|omega|trivial|(show _=_;rfl)|((with_reducible refine And.intro ?_ ?_)<;>first|omega|trivial|(show _=_;rfl)))|fail
  refine ⟨by unfold apBound; rw [List.length_append]; simp only [List.length_cons, List.length_nil]; omega, fun c1 => ?_⟩
  exact ih2 _ _ _ hN' (by rw [take_at hat2]; exact hd.snoc ⟨_, _, rfl, hnm, hty⟩) (by simp [hs])
end Go.Proofs.YtfkmegifjiiclaaGreat
