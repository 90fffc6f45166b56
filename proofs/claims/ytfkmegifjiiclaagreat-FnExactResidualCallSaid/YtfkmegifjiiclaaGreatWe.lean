/- Which parts of a body come late, one by one: lists of truth values; the reference and the program. -/
import Derived.Test.YtfkmegifjiiclaaGreatWp
import Derived.Test.YtfkmegifjiiclaaGreatWm
set_option linter.unusedVariables false
set_option linter.unusedSimpArgs false
namespace Go.Proofs.YtfkmegifjiiclaaGreat
open Go Go.Proofs Go.Proofs.Tryz Go.IntWalk

end Go.Proofs.YtfkmegifjiiclaaGreat

/- CountDynamic and TimesOf: the laws. -/
set_option linter.unusedVariables false
set_option linter.unusedSimpArgs false
namespace Go.Proofs.YtfkmegifjiiclaaGreat
open Go Go.Proofs Go.Proofs.Tryz Go.IntWalk

theorem c_l1Bit (b : Bool) : RetI 194 [.bool b] ((if b then 1 else 0 : Nat) : Int) := fun N Q hQ => w_spec_l1Bit N b Q (Br.of (fun h N1 hN1 => Qi (hQ _ hN1) (by rw [h]; rfl)) fun h N1 hN1 => Qi (hQ _ hN1) (by rw [h]; rfl))
theorem c_bit (b : Bool) : RetI 196 [.bool b] ((if b then 1 else 0 : Nat) : Int) := fun N Q hQ => w_impl_bit N b Q (Br.of (fun h N1 hN1 => Qi (hQ _ hN1) (by rw [h]; rfl)) fun h N1 hN1 => Qi (hQ _ hN1) (by rw [h]; rfl))
end Go.Proofs.YtfkmegifjiiclaaGreat

/- What bodies come to: values, and that a typed body's value fits its type. -/
set_option linter.unusedVariables false
set_option linter.unusedSimpArgs false
namespace Go.Proofs.YtfkmegifjiiclaaGreat
open Go Go.Proofs Go.Proofs.Tryz Go.IntWalk

/-- a name and its number -/
abbrev Nb := ByteArray × Int
def lastN (nm : ByteArray) (v : List Nb) : Option Int := (v.reverse.find? fun p => decide (p.1 = nm)).map (·.2)
theorem lastN_snoc {nm : ByteArray} {v : List Nb} {b : Nb} : lastN nm (v ++ [b]) = if b.1 = nm then some b.2 else lastN nm v := by
 unfold lastN
 rw [List.reverse_append]
 by_cases h : b.1 = nm <;> simp [h]
def red (n : Int) : Int := n % 10007
def bI (b : Bool) : Int := if b then 1 else 0
def applyOp (s : ByteArray) (a b : Int) : Int × Bool :=
 if inB a 0 10006 = true then (if inB b 0 10006 = true then
  (if s = bytes [43] then (red (a + b), true) else if s = bytes [45] then (red (a - b), true) else if s = bytes [42] then (red (a * b), true)
  else if s = bytes [61] then (bI (a == b), true) else if s = bytes [60] then (bI (decide (a < b)), true)
  else if s = bytes [38] then (bI (a == 1 && b == 1), true) else if s = bytes [124] then (bI (a == 1 || b == 1), true)
  else if s = bytes [33] then (bI (a == 0), true) else (0, false)) else (0, false)) else (0, false)
mutual
def Tm.ev : Tm → List Nb → Int
 | .mk k nm _ n _ _ l, v => if k = 1 then (lastN nm v).getD n else if k = 4 then (applyOp nm (evAt l 0 v) (evAt l 1 v)).1 else if k = 5 then evAt l (2 - evAt l 0 v).toNat v
   else if k = 8 then evAt l 1 (v ++ [(nm, evAt l 0 v)]) else n
def evAt : List Tm → Nat → List Nb → Int
 | [], _, _ => 0
 | t :: _, 0, v => t.ev v
 | _ :: ts, i + 1, v => evAt ts i v
end
def fits (t : Ty) (n : Int) : Bool := if t.k = 2 then inB n 0 1 else inB n 0 10006
theorem bI_in (b : Bool) : 0 ≤ bI b ∧ bI b ≤ 1 := by cases b <;> decide
theorem red_in (n : Int) : 0 ≤ red n ∧ red n ≤ 10006 := by unfold red; omega
theorem applyOp_in (s : ByteArray) (a b : Int) : 0 ≤ (applyOp s a b).1 ∧ (applyOp s a b).1 ≤ 10006 := by
 have h1 := red_in (a + b); have h2 := red_in (a - b); have h3 := red_in (a * b)
 have h4 := bI_in (a == b); have h5 := bI_in (decide (a < b)); have h6 := bI_in (a == 1 && b == 1); have h7 := bI_in (a == 1 || b == 1); have h8 := bI_in (a == 0)
 unfold applyOp
 (repeat' split) <;> constructor <;> first | omega | (simp only; omega)
theorem applyOp_bool {s : ByteArray} (n1 : ¬ s = bytes [43]) (n2 : ¬ s = bytes [45]) (n3 : ¬ s = bytes [42]) (a b : Int) : 0 ≤ (applyOp s a b).1 ∧ (applyOp s a b).1 ≤ 1 := by
 have h4 := bI_in (a == b); have h5 := bI_in (decide (a < b)); have h6 := bI_in (a == 1 && b == 1); have h7 := bI_in (a == 1 || b == 1); have h8 := bI_in (a == 0)
 unfold applyOp
 rw [if_neg n1, if_neg n2, if_neg n3]
 (repeat' split) <;> constructor <;> first | omega | (simp only; omega)
/-- numbers for the names of a typing -/
structure Fit (v : List Nb) (g : List Tg) : Prop where
 len : v.length = g.length
 at_ : ∀ (i : Nat) (x : Tg) (y : Nb), g[i]? = some x → v[i]? = some y → x.nm = y.1 ∧ fits x.ty y.2 = true
theorem Fit.snoc {v : List Nb} {g : List Tg} (h : Fit v g) {x : Tg} {y : Nb} (h1 : x.nm = y.1) (h2 : fits x.ty y.2 = true) : Fit (v ++ [y]) (g ++ [x]) := by
 refine ⟨by simp [h.len], fun i a b ha hb => ?_⟩
 by_cases hi : i < g.length
 ·rw [List.getElem?_append_left hi] at ha
  rw [List.getElem?_append_left (by have := h.len; omega)] at hb
  exact h.at_ i a b ha hb
 ·rw [List.getElem?_append_right (by omega)] at ha
  rw [List.getElem?_append_right (by have := h.len; omega), h.len] at hb
  cases hj : i - g.length with
  | zero => rw [hj] at ha hb; simp at ha hb; subst ha; subst hb; exact ⟨h1, h2⟩
  | succ j => rw [hj] at ha; simp at ha
theorem fit_last {v : List Nb} {g : List Tg} (h : Fit v g) (s : ByteArray) : ∀ n : Nat, n ≤ g.length → 0 ≤ lastTo g s n → ∃ m, lastN s (v.take n) = some m ∧ fits (g.getD (lastTo g s n).toNat tg0).ty m = true
 | 0, _, h0 => by simp [lastTo] at h0
 | n + 1, hn, h0 => by
   have hlt : n < v.length := by have := h.len; omega
   have hlg : n < g.length := by omega
   have hv : v[n]? = some v[n] := List.getElem?_eq_getElem hlt
   have hg : g[n]? = some g[n] := List.getElem?_eq_getElem hlg
   have hgd : g.getD n tg0 = g[n] := by simp [List.getD_eq_getElem?_getD, hg]
   obtain ⟨e1, e2⟩ := h.at_ n _ _ hg hv
   rw [take_at hv, lastN_snoc]
   simp only [lastTo, hgd] at h0 ⊢
   by_cases hs : g[n].nm = s
   ·rw [if_pos (by rw [← e1]; exact hs), if_pos hs]
    exact ⟨_, rfl, by rw [Int.toNat_natCast, hgd]; exact e2⟩
   ·rw [if_neg (by rw [← e1]; exact hs)]
    rw [if_neg hs] at h0 ⊢
    exact fit_last h s n (by omega) h0
theorem fit_var {v : List Nb} {g : List Tg} (h : Fit v g) {s : ByteArray} {t : Ty} (ht : varTy g s 0 = some t) : ∃ m, lastN s v = some m ∧ fits t m = true := by
 unfold varTy at ht
 split at ht
 ·cases ht
 ·rename_i h0
  split at ht
  ·cases ht
   have := fit_last h s g.length (Nat.le_refl _) (by unfold lastIx at h0; omega)
   rw [← h.len, List.take_length] at this
   have e : lastTo g s v.length = lastIx g s := by rw [h.len]; rfl
   rw [e] at this
   exact this
  ·cases ht
theorem argTys_one {x : Tm} {ts : List Tm} {g : List Tg} {n : Int} {us : List Ty} (h : argTys (x :: ts) g n = some us) : ∃ u vs, x.type g n = some u ∧ argTys ts g n = some vs ∧ us = u :: vs := by
 simp only [argTys] at h
 split at h
 ·rename_i u hu
  split at h
  ·rename_i vs hvs
   cases h
   exact ⟨u, vs, hu, hvs, rfl⟩
  ·cases h
 ·cases h
theorem fits_bool {n : Int} {t : Ty} (ht : t.k = 2) (h : fits t n = true) : n = 0 ∨ n = 1 := by
 unfold fits at h
 rw [if_pos ht, inB_iff] at h
 omega
theorem fits_of {n : Int} {t : Ty} (h : 0 ≤ n ∧ n ≤ (if t.k = 2 then 1 else 10006)) : fits t n = true := by
 unfold fits
 split at h <;> rename_i hk
 ·rw [if_pos hk, inB_iff]; omega
 ·rw [if_neg hk, inB_iff]; omega
theorem ev_fits : ∀ (t : Tm), t.ok = true → t.isB = true → ∀ (g : List Tg) (v : List Nb), Fit v g → ∀ u, t.type g 0 = some u → fits u (t.ev v) = true := by
 refine Tm.ind fun k nm ot n ty re l ih hok hb g v hf u hu => ?_
 have node := node_of hok
 simp only [Tm.isB, Bool.and_eq_true, bodyK, Bool.or_eq_true, inB_iff, beq_iff_eq] at hb
 obtain ⟨hbl, hk⟩ := hb
 have ihl : ∀ x ∈ l, ∀ g v, Fit v g → ∀ u, x.type g 0 = some u → fits u (x.ev v) = true := fun x hx => ih x hx (node.sub x hx) (tmsB_mem hbl hx)
 have har := node.ar
 have hfo := node.f
 simp only [fieldsOk, Bool.and_eq_true] at hfo
 have hin := hfo.2.2.2.2.1
 rw [inB_iff] at hin
 simp only [Tm.type] at hu
 obtain ⟨hu, hval⟩ := vld_some hu
 simp only [Tm.ev]
 by_cases h1 : k = 1
 ·rw [if_pos h1] at hu ⊢
  obtain ⟨m, e1, e2⟩ := fit_var hf hu
  rw [e1]; exact e2
 rw [if_neg h1] at hu ⊢
 by_cases h4 : k = 4
 ·subst h4
  rw [if_neg (by omega), if_neg (by omega), if_neg (by omega), if_neg (by omega), if_neg (by omega), if_neg (by omega)] at hu
  rw [if_pos rfl]
  split at hu
  ·rename_i ts hts
   unfold formTy at hu
   rw [if_pos rfl] at hu
   unfold opTy at hu
   split at hu
   ·cases hu
    refine fits_of ?_
    have hin := applyOp_in nm (evAt l 0 v) (evAt l 1 v)
    split
    ·rename_i h2
     unfold opOut at h2
     by_cases c1 : nm = bytes [43]
     ·simp [c1, tInt, Ty.k] at h2
     by_cases c2 : nm = bytes [45]
     ·simp [c1, c2, tInt, Ty.k] at h2
     by_cases c3 : nm = bytes [42]
     ·simp [c1, c2, c3, tInt, Ty.k] at h2
     exact applyOp_bool c1 c2 c3 _ _
    ·exact hin
   ·cases hu
  ·cases hu
 rw [if_neg h4]
 by_cases h5 : k = 5
 ·subst h5
  rw [if_neg (by omega), if_neg (by omega), if_neg (by omega), if_neg (by omega), if_neg (by omega), if_neg (by omega)] at hu
  rw [if_pos rfl]
  rw [show arOf 5 nm = 3 from rfl] at har
  match l, har with
  | [x0, x1, x2], _ =>
    split at hu
    ·rename_i ts hts
     obtain ⟨u0, us0, e0, h6, e3⟩ := argTys_one hts
     obtain ⟨u1, us1, e1, h7, e4⟩ := argTys_one h6
     obtain ⟨u2, us2, e2, h8, e5⟩ := argTys_one h7
     subst e5; subst e4; subst e3
     unfold formTy at hu
     rw [if_neg (by omega), if_pos rfl] at hu
     split at hu
     ·rename_i hc
      simp only [List.getD_cons_zero, List.getD_cons_succ, tyEq_iff] at hc hu
      cases hu
      have hc0 := fits_bool hc.1 (ihl x0 (by simp) g v hf _ e0)
      have ev0 : evAt [x0, x1, x2] 0 v = x0.ev v := rfl
      rw [ev0]
      rcases hc0 with hc0 | hc0
      ·rw [hc0]; rw [hc.2]; exact ihl x2 (by simp) g v hf _ e2
      ·rw [hc0]; exact ihl x1 (by simp) g v hf _ e1
     ·cases hu
    ·cases hu
  | [], h => simp at h
  | [_], h => simp at h
  | [_, _], h => simp at h
  | _ :: _ :: _ :: _ :: _, h => simp at h; omega
 rw [if_neg h5]
 by_cases h8 : k = 8
 ·subst h8
  rw [if_neg (by omega), if_neg (by omega), if_neg (by omega), if_pos rfl] at hu
  rw [if_pos rfl]
  rw [show arOf 8 nm = 2 from rfl] at har
  match l, har with
  | [x0, x1], _ =>
    simp only [argTy] at hu
    split at hu
    ·rename_i a ha
     exact ihl x1 (by simp) _ _ (hf.snoc rfl (ihl x0 (by simp) g v hf _ ha)) _ hu
    ·cases hu
  | [], h => simp at h
  | [_], h => simp at h
  | _ :: _ :: _ :: _, h => simp at h; omega
 rw [if_neg h8]
 have hk23 : k = 2 ∨ k = 3 := by omega
 rcases hk23 with rfl | rfl
 ·rw [if_pos rfl] at hu; cases hu
  refine fits_of ?_
  simpa [tInt, Ty.k] using hin
 ·rw [if_neg (by omega), if_pos rfl] at hu; cases hu
  refine fits_of ?_
  simpa [tBool, Ty.k] using hin
end Go.Proofs.YtfkmegifjiiclaaGreat

/- What bodies come to: the reference's and the program's functions. -/
set_option linter.unusedVariables false
set_option linter.unusedSimpArgs false
namespace Go.Proofs.YtfkmegifjiiclaaGreat
open Go Go.Proofs Go.Proofs.Tryz Go.IntWalk

theorem mul_in {a b : Int} (ha : 0 ≤ a ∧ a ≤ 10006) (hb : 0 ≤ b ∧ b ≤ 10006) : 0 ≤ a * b ∧ a * b ≤ 100120036 := by
 refine ⟨Int.mul_nonneg ha.1 hb.1, ?_⟩
 have h1 : a * b ≤ 10006 * b := Int.mul_le_mul_of_nonneg_right ha.2 hb.1
 omega
theorem tmod_red (n : Int) : (if Int.tmod n 10007 < 0 then Int.tmod n 10007 + 10007 else Int.tmod n 10007) = red n := by
 unfold red
 by_cases h : 0 ≤ n
 ·rw [Int.tmod_eq_emod_of_nonneg h, if_neg (by omega)]
 ·obtain ⟨m, rfl⟩ : ∃ m, n = -m := ⟨-n, by omega⟩
  rw [Int.neg_tmod, Int.tmod_eq_emod_of_nonneg (by omega)]
  split <;> omega
theorem tmod_b (n : Int) : -10007 < Int.tmod n 10007 ∧ Int.tmod n 10007 < 10007 := by
 by_cases h : 0 ≤ n
 ·rw [Int.tmod_eq_emod_of_nonneg h]; omega
 ·obtain ⟨m, rfl⟩ : ∃ m, n = -m := ⟨-n, by omega⟩
  rw [Int.neg_tmod, Int.tmod_eq_emod_of_nonneg (by omega)]
  omega
theorem c_spec_Reduce (n : Int) : RetI 193 [.int .i64 n] (red n) := fun N Q hQ => by
 have hb := tmod_b n
 have hr := tmod_red n
 refine w_spec_Reduce N n Q ⟨by omega, Br.dec (fun h N1 hN1 => ?_) fun h N2 hN2 => ?_⟩
 ·rw [i64_in _ (by omega)]
  rw [if_pos h] at hr
  exact Qi (hQ _ hN1) hr.symm
 ·rw [if_neg h] at hr
  exact Qi (hQ _ hN2) hr.symm
theorem c_impl_Reduce (n : Int) : RetI 195 [.int .i64 n] (red n) := fun N Q hQ => by
 have hb := tmod_b n
 have hr := tmod_red n
 refine w_impl_Reduce N n Q ⟨by omega, by omega, fun N1 hN1 => ?_⟩
 rw [i64_in _ (by omega)]
 refine Qi (hQ _ hN1) ?_
 rw [← hr]
 generalize Int.tmod n 10007 = m at *
 rw [Int.tmod_eq_emod_of_nonneg (by omega)]
 split <;> omega
/-- returns this number and this truth value -/
def RetIB (f : FuncId) (args : List PV) (r : Int × Bool) : Prop := ∀ (N : Nat) (Q : QT [.int .i64, .bool]), (∀ N', N ≤ N' → Q r.1 r.2 N') → ACalls prog f [.int .i64, .bool] args N Q
theorem Qp {Q : QT [.int .i64, .bool]} {a b : Int × Bool} {N : Nat} (h : Q a.1 a.2 N) (e : a = b) : Q b.1 b.2 N := e ▸ h
theorem l1Bit_bI (b : Bool) : RetI 194 [.bool b] (bI b) := fun N Q hQ => c_l1Bit b N Q fun N' h => Qi (hQ N' h) (by cases b <;> rfl)
theorem bit_bI (b : Bool) : RetI 196 [.bool b] (bI b) := fun N Q hQ => c_bit b N Q fun N' h => Qi (hQ N' h) (by cases b <;> rfl)
theorem c_spec_ApplyOp (s : ByteArray) (a b : Int) : RetIB 153 [.str s, .int .i64 a, .int .i64 b] (applyOp s a b) := fun N Q hQ => by
 refine w_spec_ApplyOp N s a b Q fun N1 hN1 => c_spec_l1In _ _ _ N1 _ fun N2 hN2 _ => ?_
 by_cases ha : inB a 0 10006 = true
 rotate_left
 ·have ha : inB a 0 10006 = false := by simpa using ha
  rw [ha]
  simp only [Bool.not_false, Br_true]
  have e : applyOp s a b = (0, false) := by unfold applyOp; rw [if_neg (by rw [ha]; decide)]
  exact fun N3 hN3 => Qp (b := (0, false)) (hQ N3 (by omega)) e
 rw [ha]
 simp only [Bool.not_true, Br_false]
 intro N4 hN4
 refine c_spec_l1In _ _ _ N4 _ fun N5 hN5 _ => ?_
 by_cases hb : inB b 0 10006 = true
 rotate_left
 ·have hb : inB b 0 10006 = false := by simpa using hb
  rw [hb]
  simp only [Bool.not_false, Br_true]
  have e : applyOp s a b = (0, false) := by unfold applyOp; rw [if_pos ha, if_neg (by rw [hb]; decide)]
  exact fun N3 hN3 => Qp (b := (0, false)) (hQ N3 (by omega)) e
 rw [hb]
 simp only [Bool.not_true, Br_false]
 have hai := inB_iff.1 ha
 have hbi := inB_iff.1 hb
 have hm := mul_in hai hbi
 rw [i64_in (a + b) (by omega), i64_in (a - b) (by omega), i64_in (a * b) (by omega)]
 have fin : ∀ (x : Int) (y : Bool) (N' : Nat), N ≤ N' → applyOp s a b = (x, y) → Q x y N' := fun x y N' h e => Qp (b := (x, y)) (hQ N' h) e
 unfold applyOp at fin
 rw [if_pos ha, if_pos hb] at fin
 clear hQ
 repeat' first|with_reducible intro _|simp only[Y1,Y2,Y3,Y4]|(with_reducible first|refine X1 ?_ ?_|refine X2 ?_ ?_|refine X3 ?_ ?_|refine X4 ?_ ?_|refine X5 ?_ ?_|refine X6 ?_ ?_|refine X7 ?_ ?_|refine X8 ?_ ?_|refine X9 ?_ ?_)|refine⟨_,_,_,rfl,?_⟩|refine⟨_,rfl,?_⟩|((with_reducible refine And.intro ?_ ?_);·first|omega|trivial|(show _=_;rfl)|((with_reducible refine And.intro ?_ ?_)<;>first|omega|trivial|(show _=_;rfl)))|refine (c_spec_Reduce _) _ _ ?_|refine (l1Bit_bI _) _ _ ?_|fail
 all_goals
  refine fin _ _ _ (by omega) ?_
  (repeat' split) <;> first | rfl | contradiction | (simp_all; done) | (congr 1; rw [show (a == 1) = false by simpa using ‹¬a = 1›]; rfl)
theorem c_impl_ApplyOp (s : ByteArray) (a b : Int) : RetIB 154 [.str s, .int .i64 a, .int .i64 b] (applyOp s a b) := fun N Q hQ => by
 refine w_impl_ApplyOp N s a b Q fun N1 hN1 => c_impl_isNumber _ N1 _ fun N2 hN2 _ => ?_
 by_cases ha : inB a 0 10006 = true
 rotate_left
 ·have ha : inB a 0 10006 = false := by simpa using ha
  rw [ha]
  simp only [Bool.not_false, Br_true]
  have e : applyOp s a b = (0, false) := by unfold applyOp; rw [if_neg (by rw [ha]; decide)]
  exact fun N3 hN3 => Qp (b := (0, false)) (hQ N3 (by omega)) e
 rw [ha]
 simp only [Bool.not_true, Br_false]
 intro N4 hN4
 refine c_impl_isNumber _ N4 _ fun N5 hN5 _ => ?_
 by_cases hb : inB b 0 10006 = true
 rotate_left
 ·have hb : inB b 0 10006 = false := by simpa using hb
  rw [hb]
  simp only [Bool.not_false, Br_true]
  have e : applyOp s a b = (0, false) := by unfold applyOp; rw [if_pos ha, if_neg (by rw [hb]; decide)]
  exact fun N3 hN3 => Qp (b := (0, false)) (hQ N3 (by omega)) e
 rw [hb]
 simp only [Bool.not_true, Br_false]
 have hai := inB_iff.1 ha
 have hbi := inB_iff.1 hb
 have hm := mul_in hai hbi
 rw [i64_in (a + b) (by omega), i64_in (a - b) (by omega), i64_in (a * b) (by omega)]
 have fin : ∀ (x : Int) (y : Bool) (N' : Nat), N ≤ N' → applyOp s a b = (x, y) → Q x y N' := fun x y N' h e => Qp (b := (x, y)) (hQ N' h) e
 unfold applyOp at fin
 rw [if_pos ha, if_pos hb] at fin
 clear hQ
 repeat' first|with_reducible intro _|simp only[Y1,Y2,Y3,Y4]|(with_reducible first|refine X1 ?_ ?_|refine X2 ?_ ?_|refine X3 ?_ ?_|refine X4 ?_ ?_|refine X5 ?_ ?_|refine X6 ?_ ?_|refine X7 ?_ ?_|refine X8 ?_ ?_|refine X9 ?_ ?_)|refine⟨_,_,_,rfl,?_⟩|refine⟨_,rfl,?_⟩|((with_reducible refine And.intro ?_ ?_);·first|omega|trivial|(show _=_;rfl)|((with_reducible refine And.intro ?_ ?_)<;>first|omega|trivial|(show _=_;rfl)))|refine (c_impl_Reduce _) _ _ ?_|refine (bit_bI _) _ _ ?_|fail
 all_goals
  refine fin _ _ _ (by omega) ?_
  (repeat' split) <;> first | rfl | contradiction | (simp_all; done) | (congr 1; rw [show (a == 1) = false by simpa using ‹¬a = 1›]; rfl)
theorem c_spec_l15Fits {t : Ty} {d : D} (hd : t.Is d) (n : Int) : RetB 59 [.dg 2 d, .int .i64 n] (fits t n) := fun N Q hQ => by
 cases t with
 | mk k l =>
 obtain ⟨a, es, c, rfl, hlen, hes⟩ := Ty.is_mk.1 hd
 refine w_spec_l15Fits N _ n Q fun _ => ⟨_, rfl, Br.beq (fun h N1 hN1 => ?_) fun h N4 hN4 => ?_⟩
 ·refine c_spec_l1In _ _ _ N1 _ fun N2 hN2 _ N3 hN3 => Qb (hQ _ (by omega)) ?_
  unfold fits; rw [show (Ty.mk k l).k = k from rfl, if_pos h]
 ·refine c_spec_l1In _ _ _ N4 _ fun N2 hN2 _ N3 hN3 => Qb (hQ _ (by omega)) ?_
  unfold fits; rw [show (Ty.mk k l).k = k from rfl, if_neg h]
theorem c_impl_isArg {t : Ty} {d : D} (hd : t.Is d) (n : Int) : RetB 118 [.dg 2 d, .int .i64 n] (fits t n) := fun N Q hQ => by
 cases t with
 | mk k l =>
 obtain ⟨a, es, c, rfl, hlen, hes⟩ := Ty.is_mk.1 hd
 refine w_impl_isArg N _ n Q fun _ => ⟨_, rfl, Br.beq (fun h N1 hN1 => ?_) fun h N4 hN4 => ?_⟩
 ·refine c_impl_within _ _ _ N1 _ fun N2 hN2 _ N3 hN3 => Qb (hQ _ (by omega)) ?_
  unfold fits; rw [show (Ty.mk k l).k = k from rfl, if_pos h]
 ·refine c_impl_isNumber _ N4 _ fun N2 hN2 _ N3 hN3 => Qb (hQ _ (by omega)) ?_
  unfold fits; rw [show (Ty.mk k l).k = k from rfl, if_neg h]
end Go.Proofs.YtfkmegifjiiclaaGreat

/- What bodies come to: the two evaluators. -/
set_option linter.unusedVariables false
set_option linter.unusedSimpArgs false
namespace Go.Proofs.YtfkmegifjiiclaaGreat
open Go Go.Proofs Go.Proofs.Tryz Go.IntWalk

def nbD (b : Nb) : D := .ag [.lit (.string b.1), .lit (.int .i64 b.2)]
theorem nb_get {v : List Nb} {i : Nat} {b : Nb} (h : v[i]? = some b) : (v.map nbD).getD i default = nbD b := by simp [List.getD_eq_getElem?_getD, h]
theorem argTys_mem : ∀ {l : List Tm} {g : List Tg} {n : Int} {ts : List Ty}, argTys l g n = some ts → ∀ x ∈ l, ∃ u, x.type g n = some u
 | y :: ys, g, n, ts, h, x, hx => by
   obtain ⟨u, vs, h1, h2, _⟩ := argTys_one h
   rcases List.mem_cons.1 hx with rfl | hx
   ·exact ⟨u, h1⟩
   ·exact argTys_mem h2 x hx
theorem type_parts {k : Int} {nm ot : ByteArray} {n m : Int} {ty re : Ty} {l : List Tm} {g : List Tg} {u : Ty} (h : (Tm.mk k nm ot n ty re l).type g m = some u) (hk : k = 4 ∨ k = 5) : ∃ ts, argTys l g m = some ts ∧ formTy k nm ts = some u := by
 simp only [Tm.type] at h
 obtain ⟨h, _⟩ := vld_some h
 rw [if_neg (by omega), if_neg (by omega), if_neg (by omega), if_neg (by omega), if_neg (by omega), if_neg (by omega), if_neg (by omega)] at h
 split at h
 ·exact ⟨_, by assumption, h⟩
 ·cases h
theorem type_let {nm ot : ByteArray} {n m : Int} {ty re : Ty} {x0 x1 : Tm} {g : List Tg} {u : Ty} (h : (Tm.mk 8 nm ot n ty re [x0, x1]).type g m = some u) : ∃ a, x0.type g m = some a ∧ x1.type (g ++ [⟨nm, a, m⟩]) m = some u := by
 simp only [Tm.type] at h
 obtain ⟨h, _⟩ := vld_some h
 rw [if_neg (by omega), if_neg (by omega), if_neg (by omega), if_neg (by omega)] at h
 simp only [if_true, argTy] at h
 split at h
 ·exact ⟨_, by assumption, h⟩
 ·cases h
theorem type_var {nm ot : ByteArray} {n m : Int} {ty re : Ty} {l : List Tm} {g : List Tg} {u : Ty} (h : (Tm.mk 1 nm ot n ty re l).type g m = some u) : varTy g nm m = some u := by
 simp only [Tm.type] at h
 exact (vld_some h).1
theorem opAr_in (s : ByteArray) : opAr s = 0 ∨ opAr s = 1 ∨ opAr s = 2 := by unfold opAr; (repeat' split) <;> simp
/-- an operation's parts: one or two -/
theorem op_parts {nm ot : ByteArray} {n : Int} {ty re : Ty} {l : List Tm} {es : List D} (h : (Tm.mk 4 nm ot n ty re l).ok = true) (hes : All2 Tm.Is l es) : (∃ x0 d0, l = [x0] ∧ es = [d0] ∧ x0.Is d0) ∨ ∃ x0 x1 d0 d1, l = [x0, x1] ∧ es = [d0, d1] ∧ x0.Is d0 ∧ x1.Is d1 := by
 have node := node_of h
 have har := node.ar
 have hf := node.f
 simp only [fieldsOk, namesOk, Bool.and_eq_true] at hf
 have hn := hf.2.2.2.2.2
 simp only [if_true, Bool.and_eq_true, decide_eq_true_eq] at hn
 rw [show arOf 4 nm = opAr nm from rfl] at har
 have ho := opAr_in nm
 match l, es, hes with
 | [x0], _, ⟨d0, ds, e1, h0, e2⟩ => subst e2; subst e1; exact .inl ⟨x0, d0, rfl, rfl, h0⟩
 | [x0, x1], _, ⟨d0, ds, e1, h0, d1, ds2, e2, h1, e3⟩ => subst e3; subst e2; subst e1; exact .inr ⟨x0, x1, d0, d1, rfl, rfl, h0, h1⟩
 | [], _, _ => simp at har; omega
 | _ :: _ :: _ :: _, _, _ => simp at har; omega
theorem c_l15Eval : ∀ (t : Tm) (d : D), t.Is d → t.ok = true → t.isB = true → ∀ (g : List Tg) (u : Ty), t.type g 0 = some u → ∀ (v : List Nb), Fit v g → ∀ (a : Option Addr) (c : Nat), v.length + t.cnt ≤ 1073741824 →
  RetI 110 [.dg 9 d, .sv a 2 (v.map nbD) c] (t.ev v) := by
 refine Tm.ind fun k nm ot n0 ty re l ih d hd hok hb g u hu v hf a c hc N Q hQ => ?_
 obtain ⟨t0, t1, r0, r1, a1, es, c1, rfl, hh, hlen, hes⟩ := Tm.is_mk.1 hd
 have node := node_of hok
 have hb2 := hb
 simp only [Tm.isB, Bool.and_eq_true, bodyK, Bool.or_eq_true, inB_iff, beq_iff_eq] at hb2
 obtain ⟨hbl, hk⟩ := hb2
 simp only [Tm.cnt] at hc
 have hvl : (v.map nbD).length = v.length := by simp
 have ihl : ∀ x ∈ l, ∀ d, x.Is d → ∀ g u, x.type g 0 = some u → ∀ v, Fit v g → ∀ a c, v.length + x.cnt ≤ 1073741824 → RetI 110 [.dg 9 d, .sv a 2 (v.map nbD) c] (x.ev v) := fun x hx d hd => ih x hx d hd (node.sub x hx) (tmsB_mem hbl hx)
 refine w_spec_l15Eval N _ a _ c Q fun _ _ => ⟨_, rfl, Br.beq (fun h1 => ?_) fun h1 => Br.beq (fun h4 => ?_) fun h4 => Br.beq (fun h5 => ?_) fun h5 => Br.beq (fun h8 => ?_) fun h8 => ?_⟩
 ·-- a name
  simp only [Tm.ev] at hQ
  rw [if_pos h1] at hQ
  have look : ∀ (i : Nat), i ≤ v.length → ∀ N1, N ≤ N1 → (∀ N', N1 ≤ N' → Q ((lastN nm (v.take i)).getD n0) N') → L_spec_l15Eval_4 Q N a (v.map nbD) c ((i : Int) - 1) (.ag [.lit (.int .i64 k), .lit (.string nm), .lit (.string ot), .lit (.int .i64 n0), t0, t1, r0, r1, .sl a1 9 es c1]) N1 := by
   intro i
   induction i with
   | zero =>
     intro hi N1 hN1 hQ1
     refine l_spec_l15Eval_4 _ _ _ _ _ _ _ _ ?_
     have e : decide (((0 : Nat) : Int) - 1 ≥ 0) = false := by simp
     repeat' first|with_reducible intro _|simp only[e,Y1,Y2,Y3,Y4]|(with_reducible first|refine X1 ?_ ?_|refine X2 ?_ ?_|refine X3 ?_ ?_|refine X4 ?_ ?_|refine X5 ?_ ?_|refine X6 ?_ ?_|refine X7 ?_ ?_|refine X8 ?_ ?_|refine X9 ?_ ?_)|refine⟨_,_,_,rfl,?_⟩|refine⟨_,rfl,?_⟩|((with_reducible refine And.intro ?_ ?_);·first|omega|trivial|(show _=_;rfl)|((with_reducible refine And.intro ?_ ?_)<;>first|omega|trivial|(show _=_;rfl)))|fail
     exact Qi (hQ1 _ (by omega)) rfl
   | succ i ihi =>
     intro hi N1 hN1 hQ1
     have hlt : i < v.length := by omega
     have hg : v[i]? = some v[i] := List.getElem?_eq_getElem hlt
     have hgd := nb_get hg
     refine l_spec_l15Eval_4 _ _ _ _ _ _ _ _ ?_
     have e0 : (((i + 1 : Nat) : Int) - 1) = (i : Int) := by omega
     have e : decide ((i : Int) ≥ 0) = true := decide_eq_true (by omega)
     have ew : IntKind.i64.wrap ((i : Int) - 1) = (i : Int) - 1 := i64_in _ (by omega)
     rw [e0]
     rw [take_at hg, lastN_snoc] at hQ1
     repeat' first|with_reducible intro _|simp only[e, ew, Int.toNat_natCast, hgd, nbD, if_true, eq_self,Y1,Y2,Y3,Y4]|(with_reducible first|refine X1 ?_ ?_|refine X2 ?_ ?_|refine X3 ?_ ?_|refine X4 ?_ ?_|refine X5 ?_ ?_|refine X6 ?_ ?_|refine X7 ?_ ?_|refine X8 ?_ ?_|refine X9 ?_ ?_)|refine⟨_,_,_,rfl,?_⟩|refine⟨_,rfl,?_⟩|((with_reducible refine And.intro ?_ ?_);·first|omega|trivial|(show _=_;rfl)|((with_reducible refine And.intro ?_ ?_)<;>first|omega|trivial|(show _=_;rfl)))|fail
     ·rename_i hs _ _
      exact Qi (hQ1 _ (by omega)) (by rw [if_pos hs]; rfl)
     ·rename_i hs
      exact ihi (by omega) N1 (by omega) fun N' h => Qi (hQ1 N' h) (by rw [if_neg hs])
  rw [hvl, i64_in _ (by omega)]
  exact look v.length (Nat.le_refl _) N (Nat.le_refl _) (by rw [List.take_length]; exact hQ)
 ·-- an operation
  simp only [Tm.ev] at hQ
  rw [if_neg h1, if_pos h4] at hQ
  subst h4
  obtain ⟨ts, hts, _⟩ := type_parts hu (.inl rfl)
  have htm := argTys_mem hts
  rcases op_parts hok hes with ⟨x0, d0, rfl, rfl, i0⟩ | ⟨x0, x1, d0, d1, rfl, rfl, i0, i1⟩
  ·obtain ⟨u0, hu0⟩ := htm x0 (by simp)
   simp only [tmsCnt] at hc
   have c0 := ihl x0 (by simp) d0 i0 g u0 hu0 v hf a c (by omega)
   have hap := c_spec_ApplyOp nm (x0.ev v) 0
   have e1 : (([d0] : List D).length : Int) = 1 := rfl
   repeat' first|with_reducible intro _|simp only[List.getD_cons_zero, List.length_cons, List.length_nil,Y1,Y2,Y3,Y4]|(with_reducible first|refine X1 ?_ ?_|refine X2 ?_ ?_|refine X3 ?_ ?_|refine X4 ?_ ?_|refine X5 ?_ ?_|refine X6 ?_ ?_|refine X7 ?_ ?_|refine X8 ?_ ?_|refine X9 ?_ ?_)|refine⟨_,_,_,rfl,?_⟩|refine⟨_,rfl,?_⟩|((with_reducible refine And.intro ?_ ?_);·first|omega|trivial|(show _=_;rfl)|((with_reducible refine And.intro ?_ ?_)<;>first|omega|trivial|(show _=_;rfl)))|refine c0 _ _ ?_|refine hap _ _ ?_|fail
   all_goals first
    | exact Qi (hQ _ (by omega)) rfl
    | (rename_i h _ _; simp at h)
  ·obtain ⟨u0, hu0⟩ := htm x0 (by simp)
   obtain ⟨u1, hu1⟩ := htm x1 (by simp)
   simp only [tmsCnt] at hc
   have c0 := ihl x0 (by simp) d0 i0 g u0 hu0 v hf a c (by omega)
   have c1 := ihl x1 (by simp) d1 i1 g u1 hu1 v hf a c (by omega)
   have hap := c_spec_ApplyOp nm (x0.ev v) (x1.ev v)
   repeat' first|with_reducible intro _|simp only[List.getD_cons_zero, List.getD_cons_succ, List.length_cons, List.length_nil,Y1,Y2,Y3,Y4]|(with_reducible first|refine X1 ?_ ?_|refine X2 ?_ ?_|refine X3 ?_ ?_|refine X4 ?_ ?_|refine X5 ?_ ?_|refine X6 ?_ ?_|refine X7 ?_ ?_|refine X8 ?_ ?_|refine X9 ?_ ?_)|refine⟨_,_,_,rfl,?_⟩|refine⟨_,rfl,?_⟩|((with_reducible refine And.intro ?_ ?_);·first|omega|trivial|(show _=_;rfl)|((with_reducible refine And.intro ?_ ?_)<;>first|omega|trivial|(show _=_;rfl)))|refine c0 _ _ ?_|refine c1 _ _ ?_|refine hap _ _ ?_|fail
   all_goals first
    | exact Qi (hQ _ (by omega)) rfl
    | (rename_i h _ _; simp at h)
 ·-- a condition
  have hfit := ev_fits
  simp only [Tm.ev] at hQ
  rw [if_neg h1, if_neg h4, if_pos h5] at hQ
  subst h5
  obtain ⟨ts, hts, hfm⟩ := type_parts hu (.inr rfl)
  obtain ⟨x0, x1, x2, d0, d1, d2, rfl, rfl, i0, i1, i2⟩ := three_parts hes (node.ar.trans rfl)
  obtain ⟨u0, us0, e0, q6, e3⟩ := argTys_one hts
  obtain ⟨u1, us1, e1, q7, e4⟩ := argTys_one q6
  obtain ⟨u2, us2, e2, q8, e5⟩ := argTys_one q7
  subst e5; subst e4; subst e3
  simp only [tmsCnt] at hc
  have c0 := ihl x0 (by simp) d0 i0 g u0 e0 v hf a c (by omega)
  have c1 := ihl x1 (by simp) d1 i1 g u1 e1 v hf a c (by omega)
  have c2 := ihl x2 (by simp) d2 i2 g u2 e2 v hf a c (by omega)
  have hu0 : u0.k = 2 := by
   unfold formTy at hfm
   rw [if_neg (by omega), if_pos rfl] at hfm
   split at hfm
   ·rename_i hcc; exact hcc.1
   ·cases hfm
  have hv := fits_bool hu0 (ev_fits x0 (node.sub _ (by simp)) (tmsB_mem hbl (by simp)) g v hf u0 e0)
  refine ⟨_, _, _, rfl, _, _, _, rfl, ⟨by omega, by simp⟩, fun N11 hN11 => c0 N11 _ fun N12 hN12 _ => ?_⟩
  have ev0 : evAt [x0, x1, x2] 0 v = x0.ev v := rfl
  rw [ev0] at hQ
  rcases hv with hv | hv
  ·rw [hv] at hQ ⊢
   rw [show IntKind.i64.wrap (2 - 0) = 2 from rfl]
   refine ⟨⟨by omega, by simp⟩, fun N13 hN13 => c2 N13 _ fun N14 hN14 _ N15 hN15 => hQ _ (by omega)⟩
  ·rw [hv] at hQ ⊢
   rw [show IntKind.i64.wrap (2 - 1) = 1 from rfl]
   refine ⟨⟨by omega, by simp⟩, fun N13 hN13 => c1 N13 _ fun N14 hN14 _ N15 hN15 => hQ _ (by omega)⟩
 ·-- a let
  simp only [Tm.ev] at hQ
  rw [if_neg h1, if_neg h4, if_neg h5, if_pos h8] at hQ
  subst h8
  obtain ⟨x0, x1, d0, d1, rfl, rfl, i0, i1⟩ := two_parts hes (node.ar.trans rfl)
  obtain ⟨u0, e0, e1⟩ := type_let hu
  simp only [tmsCnt] at hc
  have hp0 := x0.cnt_pos
  have c0 := ihl x0 (by simp) d0 i0 g u0 e0 v hf a c (by omega)
  have hf2 := hf.snoc (x := ⟨nm, u0, 0⟩) (y := (nm, x0.ev v)) rfl (ev_fits x0 (node.sub _ (by simp)) (tmsB_mem hbl (by simp)) g v hf u0 e0)
  have es1 : ([] ++ v.map nbD) ++ [D.ag [.lit (.string nm), .lit (.int .i64 (x0.ev v))]] = (v ++ [(nm, x0.ev v)]).map nbD := by simp [nbD]
  refine ⟨⟨rfl, rfl⟩, by unfold apBound; simp; omega, fun c5 => ⟨_, _, _, rfl, ⟨by omega, by simp⟩, _, rfl, _, _, _, rfl, ⟨by omega, by simp⟩, fun N16 hN16 => c0 N16 _ fun N17 hN17 _ => ⟨⟨rfl, rfl⟩, by unfold apBound; simp; omega, fun c8 => ⟨⟨rfl, rfl⟩, fun a7 _ _ N18 hN18 _ => ?_⟩⟩⟩⟩
  rw [es1]
  refine ihl x1 (by simp) d1 i1 _ u e1 _ hf2 a7 c8 (by simp; omega) N18 _ fun N19 hN19 _ N20 hN20 => ?_
  exact hQ _ (by omega)
 ·simp only [Tm.ev] at hQ
  rw [if_neg h1, if_neg h4, if_neg h5, if_neg h8] at hQ
  exact ⟨_, rfl, fun N21 hN21 => hQ _ hN21⟩
def plN (p : Pl) : Nb := (p.1, p.2.1)
theorem findP_num (nm : ByteArray) (v : List Pl) : (findP nm v).2.1 = (lastN nm (v.map plN)).getD 0 := by
 unfold findP lastN
 rw [← List.map_reverse, List.find?_map]
 generalize v.reverse = u
 induction u with
 | nil => rfl
 | cons x u ih =>
   by_cases h : x.1 = nm
   ·simp [plN, h]
   ·simp only [List.find?_cons, Function.comp, plN, h, decide_false] at ih ⊢
    exact ih
theorem c_value : ∀ (t : Tm) (d : D), t.Is d → t.ok = true → t.isB = true → ∀ (g : List Tg) (u : Ty), t.type g 0 = some u → ∀ (v : List Pl), Fit (v.map plN) g → ∀ (a : Option Addr) (c : Nat), v.length + t.cnt ≤ 1073741824 →
  RetI 112 [.sv a 3 (v.map plD) c, .dg 9 d] (t.ev (v.map plN)) := by
 refine Tm.ind fun k nm ot n0 ty re l ih d hd hok hb g u hu v hf a c hc N Q hQ => ?_
 obtain ⟨t0, t1, r0, r1, a1, es, c1, rfl, hh, hlen, hes⟩ := Tm.is_mk.1 hd
 have node := node_of hok
 have hb2 := hb
 simp only [Tm.isB, Bool.and_eq_true, bodyK, Bool.or_eq_true, inB_iff, beq_iff_eq] at hb2
 obtain ⟨hbl, hk⟩ := hb2
 simp only [Tm.cnt] at hc
 have ihl : ∀ x ∈ l, ∀ d, x.Is d → ∀ g u, x.type g 0 = some u → ∀ v : List Pl, Fit (v.map plN) g → ∀ a c, v.length + x.cnt ≤ 1073741824 → RetI 112 [.sv a 3 (v.map plD) c, .dg 9 d] (x.ev (v.map plN)) := fun x hx d hd => ih x hx d hd (node.sub x hx) (tmsB_mem hbl hx)
 refine w_impl_places_value N a _ c _ Q fun _ _ => ⟨_, rfl, Br.beq (fun h1 => ?_) fun h1 => Br.beq (fun h2 => ?_) fun h2 => Br.beq (fun h3 => ?_) fun h3 => Br.beq (fun h5 => ?_) fun h5 => Br.beq (fun h8 => ?_) fun h8 => ?_⟩
 ·simp only [Tm.ev] at hQ
  rw [if_pos h1] at hQ
  subst h1
  obtain ⟨m, e1, _⟩ := fit_var hf (type_var hu)
  refine ⟨_, rfl, fun N1 hN1 => ?_⟩
  refine c_find v a c nm (by omega) N1 _ fun N2 hN2 _ _ => ⟨_, rfl, fun N3 hN3 => ?_⟩
  exact Qi (hQ _ (by omega)) (by rw [findP_num, e1]; rfl)
 ·simp only [Tm.ev] at hQ
  rw [if_neg h1, if_neg (by omega), if_neg (by omega), if_neg (by omega)] at hQ
  exact ⟨_, rfl, fun N5 hN5 => hQ _ (by omega)⟩
 ·simp only [Tm.ev] at hQ
  rw [if_neg h1, if_neg (by omega), if_neg (by omega), if_neg (by omega)] at hQ
  exact ⟨_, rfl, fun N5 hN5 => hQ _ (by omega)⟩
 ·-- a condition
  simp only [Tm.ev] at hQ
  rw [if_neg h1, if_neg (by omega), if_pos h5] at hQ
  subst h5
  obtain ⟨ts, hts, hfm⟩ := type_parts hu (.inr rfl)
  obtain ⟨x0, x1, x2, d0, d1, d2, rfl, rfl, i0, i1, i2⟩ := three_parts hes (node.ar.trans rfl)
  obtain ⟨u0, us0, e0, q6, e3⟩ := argTys_one hts
  obtain ⟨u1, us1, e1, q7, e4⟩ := argTys_one q6
  obtain ⟨u2, us2, e2, q8, e5⟩ := argTys_one q7
  subst e5; subst e4; subst e3
  simp only [tmsCnt] at hc
  have c0 := ihl x0 (by simp) d0 i0 g u0 e0 v hf a c (by omega)
  have c1 := ihl x1 (by simp) d1 i1 g u1 e1 v hf a c (by omega)
  have c2 := ihl x2 (by simp) d2 i2 g u2 e2 v hf a c (by omega)
  have hu0 : u0.k = 2 := by
   unfold formTy at hfm
   rw [if_neg (by omega), if_pos rfl] at hfm
   split at hfm
   ·rename_i hcc; exact hcc.1
   ·cases hfm
  have hv := fits_bool hu0 (ev_fits x0 (node.sub _ (by simp)) (tmsB_mem hbl (by simp)) g _ hf u0 e0)
  refine ⟨_, _, _, rfl, _, _, _, rfl, ⟨by omega, by simp⟩, fun N11 hN11 => c0 N11 _ fun N12 hN12 _ => ?_⟩
  have ev0 : evAt [x0, x1, x2] 0 (v.map plN) = x0.ev (v.map plN) := rfl
  rw [ev0] at hQ
  rcases hv with hv | hv
  ·rw [hv] at hQ ⊢
   rw [show IntKind.i64.wrap (2 - 0) = 2 from rfl]
   refine ⟨⟨by omega, by simp⟩, fun N13 hN13 => c2 N13 _ fun N14 hN14 _ N15 hN15 => hQ _ (by omega)⟩
  ·rw [hv] at hQ ⊢
   rw [show IntKind.i64.wrap (2 - 1) = 1 from rfl]
   refine ⟨⟨by omega, by simp⟩, fun N13 hN13 => c1 N13 _ fun N14 hN14 _ N15 hN15 => hQ _ (by omega)⟩
 ·-- a let
  simp only [Tm.ev] at hQ
  rw [if_neg h1, if_neg (by omega), if_neg h5, if_pos h8] at hQ
  subst h8
  obtain ⟨x0, x1, d0, d1, rfl, rfl, i0, i1⟩ := two_parts hes (node.ar.trans rfl)
  obtain ⟨u0, e0, e1⟩ := type_let hu
  simp only [tmsCnt] at hc
  have hp0 := x0.cnt_pos
  have c0 := ihl x0 (by simp) d0 i0 g u0 e0 v hf a c (by omega)
  have hf2 := hf.snoc (x := ⟨nm, u0, 0⟩) (y := (nm, x0.ev (v.map plN))) rfl (ev_fits x0 (node.sub _ (by simp)) (tmsB_mem hbl (by simp)) g _ hf u0 e0)
  have es1 : v.map plN ++ [(nm, x0.ev (v.map plN))] = (v ++ [(nm, x0.ev (v.map plN), false)]).map plN := by simp [plN]
  rw [es1] at hf2
  refine ⟨_, rfl, _, _, _, rfl, ⟨by omega, by simp⟩, _, _, _, rfl, ⟨by omega, by simp⟩, fun N11 hN11 => c0 N11 _ fun N12 hN12 _ N13 hN13 => ?_⟩
  refine c_and v (by omega) (nm, x0.ev (v.map plN), false) a c N13 _ fun a4 c4 N14 hN14 _ _ _ N15 hN15 => ?_
  refine ihl x1 (by simp) d1 i1 _ u e1 _ hf2 a4 c4 (by simp; omega) N15 _ fun N16 hN16 _ N17 hN17 => ?_
  rw [← es1]
  exact hQ _ (by omega)
 ·-- an operation
  have h4 : k = 4 := by omega
  simp only [Tm.ev] at hQ
  rw [if_neg h1, if_pos h4] at hQ
  subst h4
  obtain ⟨ts, hts, _⟩ := type_parts hu (.inl rfl)
  have htm := argTys_mem hts
  have w1 : IntKind.i64.wrap ((0 : Int) + 1) = 1 := rfl
  have w2 : IntKind.i64.wrap ((1 : Int) + 1) = 2 := rfl
  refine ⟨_, _, _, rfl, ?_⟩
  rcases op_parts hok hes with ⟨x0, d0, rfl, rfl, i0⟩ | ⟨x0, x1, d0, d1, rfl, rfl, i0, i1⟩
  ·obtain ⟨u0, hu0⟩ := htm x0 (by simp)
   simp only [tmsCnt] at hc
   have c0 := ihl x0 (by simp) d0 i0 g u0 hu0 v hf a c (by omega)
   refine l_impl_places_value_13 _ _ _ _ _ _ _ _ _ _ _ _ _ _ _ _ (Br.dec (fun _ => ⟨⟨by omega, by simp⟩, fun N1 hN1 => c0 N1 _ fun N2 hN2 _ => ⟨⟨by omega, by omega, by simp⟩, by simp, ?_⟩⟩) fun h => absurd h (by simp))
   rw [w1]
   refine l_impl_places_value_13 _ _ _ _ _ _ _ _ _ _ _ _ _ _ _ _ (Br.dec (fun h => absurd h (by simp)) fun _ => ⟨_, rfl, ⟨by omega, by omega, by simp⟩, by simp, _, rfl, ⟨by omega, by omega, by simp⟩, by simp, _, rfl, fun N3 hN3 => ?_⟩)
   exact c_impl_ApplyOp nm (x0.ev (v.map plN)) 0 N3 _ fun N4 hN4 _ N5 hN5 => hQ _ (by omega)
  ·obtain ⟨u0, hu0⟩ := htm x0 (by simp)
   obtain ⟨u1, hu1⟩ := htm x1 (by simp)
   simp only [tmsCnt] at hc
   have c0 := ihl x0 (by simp) d0 i0 g u0 hu0 v hf a c (by omega)
   have c1 := ihl x1 (by simp) d1 i1 g u1 hu1 v hf a c (by omega)
   refine l_impl_places_value_13 _ _ _ _ _ _ _ _ _ _ _ _ _ _ _ _ (Br.dec (fun _ => ⟨⟨by omega, by simp⟩, fun N1 hN1 => c0 N1 _ fun N2 hN2 _ => ⟨⟨by omega, by omega, by simp⟩, by simp, ?_⟩⟩) fun h => absurd h (by simp))
   rw [w1]
   refine l_impl_places_value_13 _ _ _ _ _ _ _ _ _ _ _ _ _ _ _ _ (Br.dec (fun _ => ⟨⟨by omega, by simp⟩, fun N1 hN1 => c1 N1 _ fun N3 hN3 _ => ⟨⟨by omega, by omega, by simp⟩, by simp, ?_⟩⟩) fun h => absurd h (by simp))
   rw [w2]
   refine l_impl_places_value_13 _ _ _ _ _ _ _ _ _ _ _ _ _ _ _ _ (Br.dec (fun h => absurd h (by simp)) fun _ => ⟨_, rfl, ⟨by omega, by omega, by simp⟩, by simp, _, rfl, ⟨by omega, by omega, by simp⟩, by simp, _, rfl, fun N3 hN3 => ?_⟩)
   exact c_impl_ApplyOp nm (x0.ev (v.map plN)) (x1.ev (v.map plN)) N3 _ fun N4 hN4 _ N5 hN5 => hQ _ (by omega)
end Go.Proofs.YtfkmegifjiiclaaGreat

/- EvalBody: lists of numbers, bodies with arguments, the law. -/
set_option linter.unusedVariables false
set_option linter.unusedSimpArgs false
namespace Go.Proofs.YtfkmegifjiiclaaGreat
open Go Go.Proofs Go.Proofs.Tryz Go.IntWalk

def intsD (l : List Int) : List D := l.map fun n => .lit (.int .i64 n)
theorem intsD_len (l : List Int) : (intsD l).length = l.length := by simp [intsD]
theorem intsD_get {l : List Int} {i : Nat} {b : Int} (h : l[i]? = some b) : (intsD l).getD i default = .lit (.int .i64 b) := by simp [intsD, List.getD_eq_getElem?_getD, List.getElem?_map, h]
theorem intsD_foot : ∀ l : List Int, footL (intsD l) = []
 | [] => rfl
 | s :: l => by simp only [intsD, List.map_cons, footL, D.foot, List.nil_append]; exact intsD_foot l
theorem intsD_flat : ∀ l : List Int, flat0L (intsD l)
 | [] => trivial
 | s :: l => ⟨trivial, intsD_flat l⟩
theorem own_ints {N N' : Nat} (l : List Int) : OwnL N N' (intsD l) := ⟨by rw [intsD_foot]; simp, intsD_flat l, by rw [intsD_foot]; simp, by rw [intsD_foot]; simp⟩
theorem ints_all : ∀ l : List Int, All2 (fun b d => d = .lit (.int .i64 b)) l (intsD l)
 | [] => rfl
 | s :: l => ⟨_, _, rfl, rfl, ints_all l⟩
/-- returns these numbers in memory of its own -/
def RetIs (f : FuncId) (args : List PV) (l : List Int) : Prop := ∀ (N : Nat) (Q : QT [.sl 0]), (∀ a c N', N ≤ N' → Own N N' (.sl a 0 (intsD l) c) → Q a (intsD l) c N') → ACalls prog f [.sl 0] args N Q
theorem c_toIntS (l : List Int) (hl : l.length ≤ 1073741824) (a : Option Addr) (c : Nat) : RetIs 21 [.sv a 0 (intsD l) c] l := fun N Q hQ => by
 have hll := intsD_len l
 refine w_laws_toIntS N a _ c Q fun _ => ⟨⟨by omega, by omega, by omega, by omega⟩, ?_⟩
 have key := up (ints_all l) (by rw [hll]; omega) (fun i xs => ∀ N', N ≤ N' → L_laws_toIntS_3 Q N a (intsD l) c ((intsD l).length : Int).toNat ((intsD l).length : Int).toNat i (intsD (l.take i) ++ List.replicate (l.length - i) (.lit (.int .i64 0))) ((intsD l).length : Int).toNat N') ?_ ?_
 ·have := key N (Nat.le_refl _)
  simpa [intsD] using this
 ·intro i hlt hi N' hN'
  refine l_laws_toIntS_3 _ _ _ _ _ _ _ _ _ _ _ ?_
  rw [List.take_of_length_le (by omega), show l.length - i = 0 by omega]
  simp only [List.replicate_zero, List.append_nil]
  rw [hlt]
  refine ⟨⟨by simp, trivial⟩, ⟨by simp, trivial⟩, ⟨by simp, trivial⟩, fun a9 N11 hN11 hf N12 hN12 => ?_⟩
  rw [Int.toNat_natCast]
  exact hQ _ _ _ (by omega) ((own_sl (N1 := N11) (own_ints _) hf (Nat.le_refl _)).mono (Nat.le_refl _) hN12)
 ·intro i x xs hat _ ih2 N' hN'
  have hb := hat.b
  have hlt : i < l.length := by omega
  have hlen : (intsD (l.take i) ++ List.replicate (l.length - i) (D.lit (.int .i64 0))).length = l.length := by simp [intsD]; omega
  have hset : (intsD (l.take i) ++ List.replicate (l.length - i) (D.lit (.int .i64 0))).set i (.lit (.int .i64 x)) = intsD (l.take (i + 1)) ++ List.replicate (l.length - (i + 1)) (.lit (.int .i64 0)) := by
   rw [show l.length - i = (l.length - (i + 1)) + 1 by omega, List.replicate_succ, take_at hat.g]
   have hli : (intsD (l.take i)).length = i := by simp [intsD]; omega
   rw [List.set_append_right _ _ (by omega), hli, Nat.sub_self]
   simp [intsD]
  refine l_laws_toIntS_3 _ _ _ _ _ _ _ _ _ _ _ ?_
  simp only [hat.lt, hat.w, Int.toNat_natCast, Br_true, Nat.zero_add]
  refine ⟨⟨by omega, by omega⟩, _, hat.r, ⟨by omega, by omega, by rw [hlen]; omega⟩, by rw [hlen]; omega, ?_⟩
  rw [hset]
  have := ih2 N' hN'
  simpa using this
theorem c_eqIntS (l : List Int) (hl : l.length ≤ 4611686018427387904) (a b : Option Addr) (c c' : Nat) : RetB 23 [.sv a 0 (intsD l) c, .sv b 0 (intsD l) c'] true := fun N Q hQ => by
 have key := up (ints_all l) (by rw [intsD_len]; exact hl) (fun i xs => ∀ (N' : Nat), N ≤ N' → L_laws_eqIntS_4 Q N a (intsD l) c b (intsD l) c' i N') ?_ ?_
 ·refine w_laws_eqIntS N _ _ _ _ _ _ Q fun _ _ => Br.bne (fun h => absurd rfl h) fun _ => ?_
  exact key N (Nat.le_refl _)
 ·intro i hlt hi N' hN'
  refine l_laws_eqIntS_4 _ _ _ _ _ _ _ _ _ _ ?_
  repeat' first|with_reducible intro _|simp only[hlt,Y1,Y2,Y3,Y4]|(with_reducible first|refine X1 ?_ ?_|refine X2 ?_ ?_|refine X3 ?_ ?_|refine X4 ?_ ?_|refine X5 ?_ ?_|refine X6 ?_ ?_|refine X7 ?_ ?_|refine X8 ?_ ?_|refine X9 ?_ ?_)|refine⟨_,_,_,rfl,?_⟩|refine⟨_,rfl,?_⟩|((with_reducible refine And.intro ?_ ?_);·first|omega|trivial|(show _=_;rfl)|((with_reducible refine And.intro ?_ ?_)<;>first|omega|trivial|(show _=_;rfl)))|fail
  exact hQ _ (by omega)
 ·intro i x xs hat _ ih2 N' hN'
  have hb := hat.b
  refine l_laws_eqIntS_4 _ _ _ _ _ _ _ _ _ _ ?_
  simp only [hat.lt, hat.w, Int.toNat_natCast, Br_true]
  refine ⟨⟨by omega, by omega⟩, x, hat.r, ⟨by omega, by omega⟩, x, hat.r, Br.bne (fun h => absurd rfl h) fun _ => ?_⟩
  exact ih2 _ hN'

/-! bodies with arguments -/
def fitAll : List Pm → List Int → Bool
 | [], _ => true
 | p :: g, [] => true
 | p :: g, n :: ns => fits p.ty n && fitAll g ns
def namesOf : List Pm → List Int → List Nb
 | p :: g, n :: ns => (p.nm, n) :: namesOf g ns
 | _, _ => []
theorem namesOf_len : ∀ {g : List Pm} {ns : List Int}, ns.length = g.length → (namesOf g ns).length = g.length
 | [], [], _ => rfl
 | p :: g, n :: ns, h => by simp only [namesOf, List.length_cons] at h ⊢; rw [namesOf_len (by omega)]
 | [], _ :: _, h => by simp at h
 | _ :: _, [], h => by simp at h
theorem namesOf_get : ∀ {g : List Pm} {ns : List Int} {i : Nat} {p : Pm} {n : Int}, g[i]? = some p → ns[i]? = some n → (namesOf g ns)[i]? = some (p.nm, n)
 | q :: g, m :: ns, 0, p, n, h, h2 => by simp at h h2; subst h; subst h2; rfl
 | q :: g, m :: ns, i + 1, p, n, h, h2 => by simp only [namesOf, List.getElem?_cons_succ] at h h2 ⊢; exact namesOf_get h h2
 | [], _, i, p, n, h, h2 => by simp at h
 | _ :: _, [], i, p, n, h, h2 => by simp at h2
theorem fitAll_get : ∀ {g : List Pm} {ns : List Int} {i : Nat} {p : Pm} {n : Int}, fitAll g ns = true → g[i]? = some p → ns[i]? = some n → fits p.ty n = true
 | q :: g, m :: ns, 0, p, n, h0, h, h2 => by
   simp only [fitAll, Bool.and_eq_true] at h0
   simp at h h2; subst h; subst h2; exact h0.1
 | q :: g, m :: ns, i + 1, p, n, h0, h, h2 => by
   simp only [fitAll, Bool.and_eq_true] at h0
   simp only [List.getElem?_cons_succ] at h h2
   exact fitAll_get h0.2 h h2
 | [], _, i, p, n, h0, h, h2 => by simp at h
 | _ :: _, [], i, p, n, h0, h, h2 => by simp at h2
theorem fit_names {g : List Pm} {ns : List Int} (hl : ns.length = g.length) (h : fitAll g ns = true) : Fit (namesOf g ns) (ctxOf g) := by
 refine ⟨by rw [namesOf_len hl, ctxOf_len], fun i x y hx hy => ?_⟩
 have hlt : i < g.length := by have := (List.getElem?_eq_some_iff.1 hy).1; rw [namesOf_len hl] at this; exact this
 have hp : g[i]? = some g[i] := List.getElem?_eq_getElem hlt
 have hn : ns[i]? = some (ns[i]'(by omega)) := List.getElem?_eq_getElem (by omega)
 rw [namesOf_get hp hn] at hy
 rw [ctxOf, List.getElem?_map, hp] at hx
 cases hx; cases hy
 exact ⟨rfl, fitAll_get h hp hn⟩
def evalOf (g : List Pm) (e : Tm) (ns : List Int) : Int × Bool := if (bodyTy g e).isSome = true then (if ns.length = g.length then (if fitAll g ns = true then (e.ev (namesOf g ns), true) else (0, false)) else (0, false)) else (0, false)
theorem bodyTy_type {g : List Pm} {e : Tm} (h : (bodyTy g e).isSome = true) : ∃ u, e.type (ctxOf g) 0 = some u := by
 unfold bodyTy at h
 split at h
 ·exact Option.isSome_iff_exists.1 h
 ·cases h
theorem c_spec_EvalBody {g : List Pm} {es : List D} (h : Pms g es) (hg : g.length ≤ 536870000) {e : Tm} {d : D} (he : e.Is d) (hc : e.cnt ≤ 536870000) (ns : List Int) (hn : ns.length ≤ 1073741824) (a a2 : Option Addr) (c c2 : Nat) :
  RetIB 55 [.sv a 4 es c, .dg 9 d, .sv a2 0 (intsD ns) c2] (evalOf g e ns) := fun N Q hQ => by
 have hl := h.all.len
 have hnl := intsD_len ns
 refine w_spec_EvalBody N a es c d a2 _ c2 Q fun _ _ _ N1 hN1 => ?_
 refine c_spec_BodyType h (by omega) he hc a c N1 _ fun x N2 hN2 _ _ _ => Br.not (fun hb N3 hN3 => ?_) fun hb => Br.bne (fun hne N4 hN4 => ?_) fun heq => ?_
 ·have e1 : evalOf g e ns = (0, false) := by unfold evalOf; rw [if_neg (by simp [hb])]
  exact Qp (b := (0, false)) (hQ N3 (by omega)) e1
 ·have e1 : evalOf g e ns = (0, false) := by unfold evalOf; rw [if_pos hb, if_neg (by omega)]
  exact Qp (b := (0, false)) (hQ N4 (by omega)) e1
 ·have hnn : ns.length = g.length := by omega
  obtain ⟨_, hv, hbb⟩ := bodyTy_some hb
  obtain ⟨u, hu⟩ := bodyTy_type hb
  have hnl2 := namesOf_len hnn
  have hev : ∀ r, fitAll g ns = r → evalOf g e ns = if r = true then (e.ev (namesOf g ns), true) else (0, false) := fun r hr => by unfold evalOf; rw [if_pos hb, if_pos hnn, hr]
  have key := up h.all h.len (fun i xs => ∀ (q N' : Nat), N ≤ N' → (fitAll g ns = fitAll xs (ns.drop i)) → L_spec_EvalBody_6 Q N a es c a2 (intsD ns) c2 (((namesOf g ns).take i).map nbD).length q i d (((namesOf g ns).take i).map nbD) q N') ?_ ?_
  ·exact key 0 N2 (by omega) rfl
  ·intro i hlt hi q N' hN' hfa
   refine l_spec_EvalBody_6 _ _ _ _ _ _ _ _ _ _ _ _ _ _ _ ?_
   rw [hlt]
   have hft : fitAll g ns = true := by rw [hfa]; rfl
   have e1 := hev true hft
   rw [if_pos rfl] at e1
   rw [List.take_of_length_le (by omega)]
   refine ⟨⟨rfl, rfl⟩, fun a4 _ _ N4 hN4 _ => ?_⟩
   refine c_l15Eval e d he (vd_ok hv) hbb (ctxOf g) u hu _ (fit_names hnn hft) a4 q (by omega) N4 _ fun N5 hN5 _ N6 hN6 => ?_
   exact Qp (b := (e.ev (namesOf g ns), true)) (hQ N6 (by omega)) e1
  ·intro i x xs hat hxs ih2 q N' hN' hfa
   have hb2 := hat.b
   have hlt : i < ns.length := by omega
   have hni : ns[i]? = some ns[i] := List.getElem?_eq_getElem hlt
   have hng := intsD_get hni
   obtain ⟨t0, t1, hd', hnm, hty⟩ := hat.r
   have hnames := namesOf_get hat.g hni
   have hdr : ns.drop i = ns[i] :: ns.drop (i + 1) := by rw [List.getElem_cons_drop]
   rw [hdr] at hfa
   simp only [fitAll] at hfa
   refine l_spec_EvalBody_6 _ _ _ _ _ _ _ _ _ _ _ _ _ _ _ ?_
   have hsn : ((namesOf g ns).take i).map nbD ++ [D.ag [.lit (.string x.nm), .lit (.int .i64 ns[i])]] = ((namesOf g ns).take (i + 1)).map nbD := by rw [take_at hnames, List.map_append]; rfl
   have hml2 : (((namesOf g ns).take (i + 1)).map nbD).length ≤ i + 1 := by rw [List.length_map, List.length_take]; omega
   have hfit := c_spec_l15Fits hty ns[i]
   repeat' first|with_reducible intro _|simp only[hat.lt, hat.w, Int.toNat_natCast, hd', hng, if_true, eq_self,Y1,Y2,Y3,Y4]|(with_reducible first|refine X1 ?_ ?_|refine X2 ?_ ?_|refine X3 ?_ ?_|refine X4 ?_ ?_|refine X5 ?_ ?_|refine X6 ?_ ?_|refine X7 ?_ ?_|refine X8 ?_ ?_|refine X9 ?_ ?_)|refine⟨_,_,_,rfl,?_⟩|refine⟨_,rfl,?_⟩|((with_reducible refine And.intro ?_ ?_);·first|omega|trivial|(show _=_;rfl)|((with_reducible refine And.intro ?_ ?_)<;>first|omega|trivial|(show _=_;rfl)))|refine hfit _ _ ?_|fail
   ·have e1 := hev false (by rw [hfa]; rename_i hx _ _; rw [hx]; rfl)
    exact Qp (b := (0, false)) (hQ _ (by omega)) e1
   ·refine ⟨by unfold apBound; rw [hsn]; omega, fun c1 => ?_⟩
    rw [hsn]
    refine ih2 _ _ (by omega) ?_
    rename_i hx
    rw [hfa, hx, Bool.true_and]
theorem c_impl_areArgs {g : List Pm} {es : List D} (h : Pms g es) (hg : g.length ≤ 1073741824) (ns : List Int) (hn : ns.length ≤ 1073741824) (a a2 : Option Addr) (c c2 : Nat) :
  RetB 62 [.sv a 4 es c, .sv a2 0 (intsD ns) c2] (decide (ns.length = g.length) && fitAll g ns) := fun N Q hQ => by
 have hl := h.all.len
 have hnl := intsD_len ns
 refine w_impl_areArgs N a es c a2 _ c2 Q fun _ _ => Br.bne (fun hne N1 hN1 => ?_) fun heq => ?_
 ·exact Qb (hQ _ hN1) (by rw [decide_eq_false (by omega)]; rfl)
 ·have hnn : ns.length = g.length := by omega
  rw [decide_eq_true hnn, Bool.true_and] at hQ
  have key := up h.all h.len (fun i xs => ∀ (N' : Nat), N ≤ N' → (fitAll g ns = fitAll xs (ns.drop i)) → L_impl_areArgs_4 Q N a2 (intsD ns) c2 a es c es.length i N') ?_ ?_
  ·exact key N (by omega) rfl
  ·intro i hlt hi N' hN' hfa
   refine l_impl_areArgs_4 _ _ _ _ _ _ _ _ _ _ _ ?_
   repeat' first|with_reducible intro _|simp only[hlt,Y1,Y2,Y3,Y4]|(with_reducible first|refine X1 ?_ ?_|refine X2 ?_ ?_|refine X3 ?_ ?_|refine X4 ?_ ?_|refine X5 ?_ ?_|refine X6 ?_ ?_|refine X7 ?_ ?_|refine X8 ?_ ?_|refine X9 ?_ ?_)|refine⟨_,_,_,rfl,?_⟩|refine⟨_,rfl,?_⟩|((with_reducible refine And.intro ?_ ?_);·first|omega|trivial|(show _=_;rfl)|((with_reducible refine And.intro ?_ ?_)<;>first|omega|trivial|(show _=_;rfl)))|fail
   exact Qb (hQ _ (by omega)) (by rw [hfa]; rfl)
  ·intro i x xs hat hxs ih2 N' hN' hfa
   have hb2 := hat.b
   have hlt : i < ns.length := by omega
   have hni : ns[i]? = some ns[i] := List.getElem?_eq_getElem hlt
   have hng := intsD_get hni
   obtain ⟨t0, t1, hd', hnm, hty⟩ := hat.r
   have hdr : ns.drop i = ns[i] :: ns.drop (i + 1) := by rw [List.getElem_cons_drop]
   rw [hdr] at hfa
   simp only [fitAll] at hfa
   refine l_impl_areArgs_4 _ _ _ _ _ _ _ _ _ _ _ ?_
   have hfit := c_impl_isArg hty ns[i]
   repeat' first|with_reducible intro _|simp only[hat.lt, hat.w, Int.toNat_natCast, hd', hng,Y1,Y2,Y3,Y4]|(with_reducible first|refine X1 ?_ ?_|refine X2 ?_ ?_|refine X3 ?_ ?_|refine X4 ?_ ?_|refine X5 ?_ ?_|refine X6 ?_ ?_|refine X7 ?_ ?_|refine X8 ?_ ?_|refine X9 ?_ ?_)|refine⟨_,_,_,rfl,?_⟩|refine⟨_,rfl,?_⟩|((with_reducible refine And.intro ?_ ?_);·first|omega|trivial|(show _=_;rfl)|((with_reducible refine And.intro ?_ ?_)<;>first|omega|trivial|(show _=_;rfl)))|refine hfit _ _ ?_|fail
   ·rename_i hx _ _
    exact Qb (hQ _ (by omega)) (by rw [hfa, hx]; rfl)
   ·refine ih2 _ (by omega) ?_
    rename_i hx
    rw [hfa, hx, Bool.true_and]
def plsOf : List Pm → List Int → List Pl
 | p :: g, n :: ns => (p.nm, n, false) :: plsOf g ns
 | _, _ => []
theorem plsOf_names : ∀ (g : List Pm) (ns : List Int), (plsOf g ns).map plN = namesOf g ns
 | [], _ => by simp [plsOf, namesOf]
 | _ :: _, [] => by simp [plsOf, namesOf]
 | p :: g, n :: ns => by simp only [plsOf, namesOf, List.map_cons, plsOf_names g ns]; rfl
theorem plsOf_len (g : List Pm) (ns : List Int) : (plsOf g ns).length = (namesOf g ns).length := by rw [← plsOf_names, List.length_map]
theorem plsOf_get : ∀ {g : List Pm} {ns : List Int} {i : Nat} {p : Pm} {n : Int}, g[i]? = some p → ns[i]? = some n → (plsOf g ns)[i]? = some (p.nm, n, false)
 | q :: g, m :: ns, 0, p, n, h, h2 => by simp at h h2; subst h; subst h2; rfl
 | q :: g, m :: ns, i + 1, p, n, h, h2 => by simp only [plsOf, List.getElem?_cons_succ] at h h2 ⊢; exact plsOf_get h h2
 | [], _, i, p, n, h, h2 => by simp at h
 | _ :: _, [], i, p, n, h, h2 => by simp at h2
theorem c_impl_EvalBody {g : List Pm} {es : List D} (h : Pms g es) (hg : g.length ≤ 536870000) (hc2 : ∀ x ∈ g, x.ty.cnt ≤ 1073741824) {e : Tm} {d : D} (he : e.Is d) (hc : e.cnt ≤ 1048576000 / 2) (ns : List Int) (hn : ns.length ≤ 1073741824) (a a2 : Option Addr) (c c2 : Nat) :
  RetIB 58 [.sv a 4 es c, .dg 9 d, .sv a2 0 (intsD ns) c2] (evalOf g e ns) := fun N Q hQ => by
 have hl := h.all.len
 have hnl := intsD_len ns
 refine w_impl_EvalBody N a es c d a2 _ c2 Q fun _ _ _ N1 hN1 => ?_
 refine c_impl_BodyType h (by omega) hc2 he hc a c N1 _ fun x N2 hN2 _ _ _ _ => Br.not (fun hb N3 hN3 => ?_) fun hb N4 hN4 => ?_
 ·have e1 : evalOf g e ns = (0, false) := by unfold evalOf; rw [if_neg (by simp [hb])]
  exact Qp (b := (0, false)) (hQ N3 (by omega)) e1
 refine c_impl_areArgs h (by omega) ns hn a a2 c c2 N4 _ fun N5 hN5 _ => Br.not (fun hf N6 hN6 => ?_) fun hf => ?_
 ·have e1 : evalOf g e ns = (0, false) := by
   unfold evalOf
   rw [if_pos hb]
   split
   ·rename_i hnn
    rw [decide_eq_true hnn, Bool.true_and] at hf
    rw [if_neg (by simp [hf])]
   ·rfl
  exact Qp (b := (0, false)) (hQ N6 (by omega)) e1
 ·simp only [Bool.and_eq_true, decide_eq_true_eq] at hf
  obtain ⟨hnn, hft⟩ := hf
  obtain ⟨_, hv, hbb⟩ := bodyTy_some hb
  obtain ⟨u, hu⟩ := bodyTy_type hb
  have hnl2 := namesOf_len hnn
  have hpl := plsOf_len g ns
  have e1 : evalOf g e ns = (e.ev (namesOf g ns), true) := by unfold evalOf; rw [if_pos hb, if_pos hnn, if_pos hft]
  have hfn := fit_names hnn hft
  rw [← plsOf_names] at hfn e1
  have fin : ∀ (a4 : Option Addr) (c4 : Nat) (N4 : Nat), N ≤ N4 → ∀ (K : QT [.int .i64]), (∀ N5, N4 ≤ N5 → K (e.ev ((plsOf g ns).map plN)) N5) → ACalls prog 112 [.int .i64] [.sv a4 3 ((plsOf g ns).map plD) c4, .dg 9 d] N4 K := fun a4 c4 N4 h4 K hK =>
   c_value e d he (vd_ok hv) hbb (ctxOf g) u hu (plsOf g ns) hfn a4 c4 (by omega) N4 K hK
  have key := up h.all h.len (fun i xs => (i = 0 → ∀ (N' : Nat), N ≤ N' → L_impl_EvalBody_6 Q N a2 (intsD ns) c2 0 0 a es c es.length i d [] 0 N') ∧
   (0 < i → ∀ (a5 : Option Addr) (c5 : Nat) (N' : Nat), N ≤ N' → L_impl_EvalBody_6_v1 Q N a2 (intsD ns) c2 a5 (((plsOf g ns).take i).map plD) c5 a es c es.length i d N')) (fun i hlt hi => ⟨fun h0 N' hN' => ?_, fun h0 a5 c5 N' hN' => ?_⟩) (fun i x xs hat _ ih2 => ⟨fun h0 N' hN' => ?_, fun h0 a5 c5 N' hN' => ?_⟩)
  ·exact key.1 rfl N5 (by omega)
  ·refine l_impl_EvalBody_6 _ _ _ _ _ _ _ _ _ _ _ _ _ _ _ _ ?_
   rw [hlt]
   refine ⟨⟨rfl, rfl⟩, fun a4 _ _ N3 hN3 _ => ?_⟩
   have hg0 : plsOf g ns = [] := List.eq_nil_of_length_eq_zero (by omega)
   have := fin a4 0 N3 (by omega)
   rw [hg0] at this e1
   refine this _ fun N6 hN6 _ N7 hN7 => ?_
   exact Qp (hQ N7 (by omega)) e1
  ·refine l_impl_EvalBody_6_v1 _ _ _ _ _ _ _ _ _ _ _ _ _ _ _ ?_
   rw [hlt]
   rw [List.take_of_length_le (by omega)]
   exact fun N3 hN3 => fin a5 c5 N3 (by omega) _ fun N6 hN6 _ N7 hN7 => Qp (hQ N7 (by omega)) e1
  all_goals
   have hb2 := hat.b
   have hlt : i < ns.length := by omega
   have hni : ns[i]? = some ns[i] := List.getElem?_eq_getElem hlt
   have hng := intsD_get hni
   obtain ⟨t0, t1, hd', hnm, hty⟩ := hat.r
   have hat2 := plsOf_get hat.g hni
  ·subst h0
   have e3 : ((plsOf g ns).take (0 + 1)) = [] ++ [(x.nm, ns[0], false)] := take_at hat2
   have hand := c_and [] (by simp) (x.nm, ns[0], false)
   rw [← e3] at hand
   refine l_impl_EvalBody_6 _ _ _ _ _ _ _ _ _ _ _ _ _ _ _ _ ?_
   have e4 : (((0 : Nat) : Int)).toNat = 0 := rfl
   repeat' first|with_reducible intro _|simp only[hat.lt, hat.w, e4, hd', hng,Y1,Y2,Y3,Y4]|(with_reducible first|refine X1 ?_ ?_|refine X2 ?_ ?_|refine X3 ?_ ?_|refine X4 ?_ ?_|refine X5 ?_ ?_|refine X6 ?_ ?_|refine X7 ?_ ?_|refine X8 ?_ ?_|refine X9 ?_ ?_)|refine⟨_,_,_,rfl,?_⟩|refine⟨_,rfl,?_⟩|((with_reducible refine And.intro ?_ ?_);·first|omega|trivial|(show _=_;rfl)|((with_reducible refine And.intro ?_ ?_)<;>first|omega|trivial|(show _=_;rfl)))|fail
   rename_i ad hap N1 hN1 hbel
   exact hand ad 0 N1 _ fun a2 c2 N2 hN2 own _ => ⟨off_ownA hbel own (Nat.le_refl _), fun _ => ih2.2 (by omega) _ _ _ (by omega)⟩
  ·have htl : ((plsOf g ns).take i).length ≤ 1073741824 := by rw [List.length_take]; omega
   refine l_impl_EvalBody_6_v1 _ _ _ _ _ _ _ _ _ _ _ _ _ _ _ ?_
   have hand := c_and ((plsOf g ns).take i) htl (x.nm, ns[i], false)
   rw [← take_at hat2] at hand
   repeat' first|with_reducible intro _|simp only[hat.lt, hat.w, Int.toNat_natCast, hd', hng,Y1,Y2,Y3,Y4]|(with_reducible first|refine X1 ?_ ?_|refine X2 ?_ ?_|refine X3 ?_ ?_|refine X4 ?_ ?_|refine X5 ?_ ?_|refine X6 ?_ ?_|refine X7 ?_ ?_|refine X8 ?_ ?_|refine X9 ?_ ?_)|refine⟨_,_,_,rfl,?_⟩|refine⟨_,rfl,?_⟩|((with_reducible refine And.intro ?_ ?_);·first|omega|trivial|(show _=_;rfl)|((with_reducible refine And.intro ?_ ?_)<;>first|omega|trivial|(show _=_;rfl)))|refine (hand _ _) _ _ ?_|fail
   exact ih2.2 (by omega) _ _ _ (by omega)
end Go.Proofs.YtfkmegifjiiclaaGreat
