/- Which parts of a body come late, one by one: lists of truth values; the reference and the program. -/
import Derived.Test.YtfkmegifjiiclaaGreatWp
import Derived.Test.YtfkmegifjiiclaaGreatWm
set_option linter.unusedVariables false
set_option linter.unusedSimpArgs false
namespace Go.Proofs.YtfkmegifjiiclaaGreat
open Go Go.Proofs Go.Proofs.Tryz Go.IntWalk

end Go.Proofs.YtfkmegifjiiclaaGreat

/- CountDynamic and TimesOf: the laws. -/
set_option linter.unusedVariables false
set_option linter.unusedSimpArgs false
namespace Go.Proofs.YtfkmegifjiiclaaGreat
open Go Go.Proofs Go.Proofs.Tryz Go.IntWalk

theorem zOq (b : Bool) : tf 194 [.bool b] ((if b then 1 else 0 : Nat) : Int) := fun N Q hQ => zIK N b Q (Br.of (fun h N1 hN1 => Qi (hQ _ hN1) (by rw [h]; rfl)) fun h N1 hN1 => Qi (hQ _ hN1) (by rw [h]; rfl))
theorem zP8 (b : Bool) : tf 196 [.bool b] ((if b then 1 else 0 : Nat) : Int) := fun N Q hQ => zKo N b Q (Br.of (fun h N1 hN1 => Qi (hQ _ hN1) (by rw [h]; rfl)) fun h N1 hN1 => Qi (hQ _ hN1) (by rw [h]; rfl))
end Go.Proofs.YtfkmegifjiiclaaGreat

/- What bodies come to: values, and that a typed body's value fits its type. -/
set_option linter.unusedVariables false
set_option linter.unusedSimpArgs false
namespace Go.Proofs.YtfkmegifjiiclaaGreat
open Go Go.Proofs Go.Proofs.Tryz Go.IntWalk

/-- a name and its number -/
abbrev Nb := ByteArray × Int
def zG4 (nm : ByteArray) (v : List Nb) : Option Int := (v.reverse.find? fun p => decide (p.1 = nm)).map (·.2)
theorem zFK {nm : ByteArray} {v : List Nb} {b : Nb} : zG4 nm (v ++ [b]) = if b.1 = nm then some b.2 else zG4 nm v := by
 unfold zG4
 rw [List.reverse_append]
 by_cases h : b.1 = nm <;> simp [h]
def red (n : Int) : Int := n % 10007
def bI (b : Bool) : Int := if b then 1 else 0
def yU (s : ByteArray) (a b : Int) : Int × Bool :=
 if inB a 0 10006 = true then (if inB b 0 10006 = true then
  (if s = bytes [43] then (red (a + b), true) else if s = bytes [45] then (red (a - b), true) else if s = bytes [42] then (red (a * b), true)
  else if s = bytes [61] then (bI (a == b), true) else if s = bytes [60] then (bI (decide (a < b)), true)
  else if s = bytes [38] then (bI (a == 1 && b == 1), true) else if s = bytes [124] then (bI (a == 1 || b == 1), true)
  else if s = bytes [33] then (bI (a == 0), true) else (0, false)) else (0, false)) else (0, false)
mutual
def Tm.ev : Tm → List Nb → Int
 | .mk k nm _ n _ _ l, v => if k = 1 then (zG4 nm v).getD n else if k = 4 then (yU nm (zIw l 0 v) (zIw l 1 v)).1 else if k = 5 then zIw l (2 - zIw l 0 v).toNat v
   else if k = 8 then zIw l 1 (v ++ [(nm, zIw l 0 v)]) else n
def zIw : List Tm → Nat → List Nb → Int
 | [], _, _ => 0
 | t :: _, 0, v => t.ev v
 | _ :: ts, i + 1, v => zIw ts i v
end
def zBj (t : Ty) (n : Int) : Bool := if t.k = 2 then inB n 0 1 else inB n 0 10006
theorem zEI (b : Bool) : 0 ≤ bI b ∧ bI b ≤ 1 := by cases b <;> decide
theorem zMU (n : Int) : 0 ≤ red n ∧ red n ≤ 10006 := by unfold red; omega
theorem zLK (s : ByteArray) (a b : Int) : 0 ≤ (yU s a b).1 ∧ (yU s a b).1 ≤ 10006 := by
 have h1 := zMU (a + b); have h2 := zMU (a - b); have h3 := zMU (a * b)
 have h4 := zEI (a == b); have h5 := zEI (decide (a < b)); have h6 := zEI (a == 1 && b == 1); have h7 := zEI (a == 1 || b == 1); have h8 := zEI (a == 0)
 unfold yU
 (repeat' split) <;> constructor <;> first | omega | (simp only; omega)
theorem zHd {s : ByteArray} (n1 : ¬ s = bytes [43]) (n2 : ¬ s = bytes [45]) (n3 : ¬ s = bytes [42]) (a b : Int) : 0 ≤ (yU s a b).1 ∧ (yU s a b).1 ≤ 1 := by
 have h4 := zEI (a == b); have h5 := zEI (decide (a < b)); have h6 := zEI (a == 1 && b == 1); have h7 := zEI (a == 1 || b == 1); have h8 := zEI (a == 0)
 unfold yU
 rw [if_neg n1, if_neg n2, if_neg n3]
 (repeat' split) <;> constructor <;> first | omega | (simp only; omega)
/-- numbers for the names of a typing -/
structure Fit (v : List Nb) (g : List Tg) : Prop where
 len : v.length = g.length
 at_ : ∀ (i : Nat) (x : Tg) (y : Nb), g[i]? = some x → v[i]? = some y → x.nm = y.1 ∧ zBj x.ty y.2 = true
theorem Fit.snoc {v : List Nb} {g : List Tg} (h : Fit v g) {x : Tg} {y : Nb} (h1 : x.nm = y.1) (h2 : zBj x.ty y.2 = true) : Fit (v ++ [y]) (g ++ [x]) := by
 refine ⟨by simp [h.len], fun i a b ha hb => ?_⟩
 by_cases hi : i < g.length
 ·rw [List.getElem?_append_left hi] at ha
  rw [List.getElem?_append_left (by have := h.len; omega)] at hb
  exact h.at_ i a b ha hb
 ·rw [List.getElem?_append_right (by omega)] at ha
  rw [List.getElem?_append_right (by have := h.len; omega), h.len] at hb
  cases hj : i - g.length with
  | zero => rw [hj] at ha hb; simp at ha hb; subst ha; subst hb; exact ⟨h1, h2⟩
  | succ j => rw [hj] at ha; simp at ha
theorem zKU {v : List Nb} {g : List Tg} (h : Fit v g) (s : ByteArray) : ∀ n : Nat, n ≤ g.length → 0 ≤ ve g s n → ∃ m, zG4 s (v.take n) = some m ∧ zBj (g.getD (ve g s n).toNat tg0).ty m = true
 | 0, _, h0 => by simp [ve] at h0
 | n + 1, hn, h0 => by
   have hlt : n < v.length := by have := h.len; omega
   have hlg : n < g.length := by omega
   have hv : v[n]? = some v[n] := List.getElem?_eq_getElem hlt
   have hg : g[n]? = some g[n] := List.getElem?_eq_getElem hlg
   have hgd : g.getD n tg0 = g[n] := by simp [List.getD_eq_getElem?_getD, hg]
   obtain ⟨e1, e2⟩ := h.at_ n _ _ hg hv
   rw [zY hv, zFK]
   simp only [ve, hgd] at h0 ⊢
   by_cases hs : g[n].nm = s
   ·rw [if_pos (by rw [← e1]; exact hs), if_pos hs]
    exact ⟨_, rfl, by rw [Int.toNat_natCast, hgd]; exact e2⟩
   ·rw [if_neg (by rw [← e1]; exact hs)]
    rw [if_neg hs] at h0 ⊢
    exact zKU h s n (by omega) h0
theorem zMY {v : List Nb} {g : List Tg} (h : Fit v g) {s : ByteArray} {t : Ty} (ht : rp g s 0 = some t) : ∃ m, zG4 s v = some m ∧ zBj t m = true := by
 unfold rp at ht
 split at ht
 ·cases ht
 ·rename_i h0
  split at ht
  ·cases ht
   have := zKU h s g.length (Nat.le_refl _) (by unfold yB at h0; omega)
   rw [← h.len, List.take_length] at this
   have e : ve g s v.length = yB g s := by rw [h.len]; rfl
   rw [e] at this
   exact this
  ·cases ht
theorem yD {x : Tm} {ts : List Tm} {g : List Tg} {n : Int} {us : List Ty} (h : ze (x :: ts) g n = some us) : ∃ u vs, x.type g n = some u ∧ ze ts g n = some vs ∧ us = u :: vs := by
 simp only [ze] at h
 split at h
 ·rename_i u hu
  split at h
  ·rename_i vs hvs
   cases h
   exact ⟨u, vs, hu, hvs, rfl⟩
  ·cases h
 ·cases h
theorem zAC {n : Int} {t : Ty} (ht : t.k = 2) (h : zBj t n = true) : n = 0 ∨ n = 1 := by
 unfold zBj at h
 rw [if_pos ht, yJ] at h
 omega
theorem zJc {n : Int} {t : Ty} (h : 0 ≤ n ∧ n ≤ (if t.k = 2 then 1 else 10006)) : zBj t n = true := by
 unfold zBj
 split at h <;> rename_i hk
 ·rw [if_pos hk, yJ]; omega
 ·rw [if_neg hk, yJ]; omega
theorem qc : ∀ (t : Tm), t.ok = true → t.isB = true → ∀ (g : List Tg) (v : List Nb), Fit v g → ∀ u, t.type g 0 = some u → zBj u (t.ev v) = true := by
 refine Tm.ind fun k nm ot n ty re l ih hok hb g v hf u hu => ?_
 have node := za hok
 simp only [Tm.isB, Bool.and_eq_true, zBy, Bool.or_eq_true, yJ, beq_iff_eq] at hb
 obtain ⟨hbl, hk⟩ := hb
 have ihl : ∀ x ∈ l, ∀ g v, Fit v g → ∀ u, x.type g 0 = some u → zBj u (x.ev v) = true := fun x hx => ih x hx (node.sub x hx) (xL hbl hx)
 have har := node.ar
 have hfo := node.f
 simp only [yF, Bool.and_eq_true] at hfo
 have hin := hfo.2.2.2.2.1
 rw [yJ] at hin
 simp only [Tm.type] at hu
 obtain ⟨hu, hval⟩ := pz hu
 simp only [Tm.ev]
 by_cases h1 : k = 1
 ·rw [if_pos h1] at hu ⊢
  obtain ⟨m, e1, e2⟩ := zMY hf hu
  rw [e1]; exact e2
 rw [if_neg h1] at hu ⊢
 by_cases h4 : k = 4
 ·subst h4
  rw [if_neg (by omega), if_neg (by omega), if_neg (by omega), if_neg (by omega), if_neg (by omega), if_neg (by omega)] at hu
  rw [if_pos rfl]
  split at hu
  ·rename_i ts hts
   unfold yV at hu
   rw [if_pos rfl] at hu
   unfold zN5 at hu
   split at hu
   ·cases hu
    refine zJc ?_
    have hin := zLK nm (zIw l 0 v) (zIw l 1 v)
    split
    ·rename_i h2
     unfold zBZ at h2
     by_cases c1 : nm = bytes [43]
     ·simp [c1, tInt, Ty.k] at h2
     by_cases c2 : nm = bytes [45]
     ·simp [c1, c2, tInt, Ty.k] at h2
     by_cases c3 : nm = bytes [42]
     ·simp [c1, c2, c3, tInt, Ty.k] at h2
     exact zHd c1 c2 c3 _ _
    ·exact hin
   ·cases hu
  ·cases hu
 rw [if_neg h4]
 by_cases h5 : k = 5
 ·subst h5
  rw [if_neg (by omega), if_neg (by omega), if_neg (by omega), if_neg (by omega), if_neg (by omega), if_neg (by omega)] at hu
  rw [if_pos rfl]
  rw [show r8 5 nm = 3 from rfl] at har
  match l, har with
  | [x0, x1, x2], _ =>
    split at hu
    ·rename_i ts hts
     obtain ⟨u0, us0, e0, h6, e3⟩ := yD hts
     obtain ⟨u1, us1, e1, h7, e4⟩ := yD h6
     obtain ⟨u2, us2, e2, h8, e5⟩ := yD h7
     subst e5; subst e4; subst e3
     unfold yV at hu
     rw [if_neg (by omega), if_pos rfl] at hu
     split at hu
     ·rename_i hc
      simp only [List.getD_cons_zero, List.getD_cons_succ, tS] at hc hu
      cases hu
      have hc0 := zAC hc.1 (ihl x0 (by simp) g v hf _ e0)
      have ev0 : zIw [x0, x1, x2] 0 v = x0.ev v := rfl
      rw [ev0]
      rcases hc0 with hc0 | hc0
      ·rw [hc0]; rw [hc.2]; exact ihl x2 (by simp) g v hf _ e2
      ·rw [hc0]; exact ihl x1 (by simp) g v hf _ e1
     ·cases hu
    ·cases hu
  | [], h => simp at h
  | [_], h => simp at h
  | [_, _], h => simp at h
  | _ :: _ :: _ :: _ :: _, h => simp at h; omega
 rw [if_neg h5]
 by_cases h8 : k = 8
 ·subst h8
  rw [if_neg (by omega), if_neg (by omega), if_neg (by omega), if_pos rfl] at hu
  rw [if_pos rfl]
  rw [show r8 8 nm = 2 from rfl] at har
  match l, har with
  | [x0, x1], _ =>
    simp only [wu] at hu
    split at hu
    ·rename_i a ha
     exact ihl x1 (by simp) _ _ (hf.snoc rfl (ihl x0 (by simp) g v hf _ ha)) _ hu
    ·cases hu
  | [], h => simp at h
  | [_], h => simp at h
  | _ :: _ :: _ :: _, h => simp at h; omega
 rw [if_neg h8]
 have hk23 : k = 2 ∨ k = 3 := by omega
 rcases hk23 with rfl | rfl
 ·rw [if_pos rfl] at hu; cases hu
  refine zJc ?_
  simpa [tInt, Ty.k] using hin
 ·rw [if_neg (by omega), if_pos rfl] at hu; cases hu
  refine zJc ?_
  simpa [tBool, Ty.k] using hin
end Go.Proofs.YtfkmegifjiiclaaGreat

/- What bodies come to: the reference's and the program's functions. -/
set_option linter.unusedVariables false
set_option linter.unusedSimpArgs false
namespace Go.Proofs.YtfkmegifjiiclaaGreat
open Go Go.Proofs Go.Proofs.Tryz Go.IntWalk

theorem zN3 {a b : Int} (ha : 0 ≤ a ∧ a ≤ 10006) (hb : 0 ≤ b ∧ b ≤ 10006) : 0 ≤ a * b ∧ a * b ≤ 100120036 := by
 refine ⟨Int.mul_nonneg ha.1 hb.1, ?_⟩
 have h1 : a * b ≤ 10006 * b := Int.mul_le_mul_of_nonneg_right ha.2 hb.1
 omega
theorem zJ7 (n : Int) : (if Int.tmod n 10007 < 0 then Int.tmod n 10007 + 10007 else Int.tmod n 10007) = red n := by
 unfold red
 by_cases h : 0 ≤ n
 ·rw [Int.tmod_eq_emod_of_nonneg h, if_neg (by omega)]
 ·obtain ⟨m, rfl⟩ : ∃ m, n = -m := ⟨-n, by omega⟩
  rw [Int.neg_tmod, Int.tmod_eq_emod_of_nonneg (by omega)]
  split <;> omega
theorem zN6 (n : Int) : -10007 < Int.tmod n 10007 ∧ Int.tmod n 10007 < 10007 := by
 by_cases h : 0 ≤ n
 ·rw [Int.tmod_eq_emod_of_nonneg h]; omega
 ·obtain ⟨m, rfl⟩ : ∃ m, n = -m := ⟨-n, by omega⟩
  rw [Int.neg_tmod, Int.tmod_eq_emod_of_nonneg (by omega)]
  omega
theorem zF2 (n : Int) : tf 193 [.int .i64 n] (red n) := fun N Q hQ => by
 have hb := zN6 n
 have hr := zJ7 n
 refine zFT N n Q ⟨by omega, Br.dec (fun h N1 hN1 => ?_) fun h N2 hN2 => ?_⟩
 ·rw [i64_in _ (by omega)]
  rw [if_pos h] at hr
  exact Qi (hQ _ hN1) hr.symm
 ·rw [if_neg h] at hr
  exact Qi (hQ _ hN2) hr.symm
theorem zGL (n : Int) : tf 195 [.int .i64 n] (red n) := fun N Q hQ => by
 have hb := zN6 n
 have hr := zJ7 n
 refine zGa N n Q ⟨by omega, by omega, fun N1 hN1 => ?_⟩
 rw [i64_in _ (by omega)]
 refine Qi (hQ _ hN1) ?_
 rw [← hr]
 generalize Int.tmod n 10007 = m at *
 rw [Int.tmod_eq_emod_of_nonneg (by omega)]
 split <;> omega
/-- returns this number and this truth value -/
def zPP (f : FuncId) (args : List PV) (r : Int × Bool) : Prop := ∀ (N : Nat) (Q : QT [.int .i64, .bool]), (∀ N', N ≤ N' → Q r.1 r.2 N') → ACalls prog f [.int .i64, .bool] args N Q
theorem Qp {Q : QT [.int .i64, .bool]} {a b : Int × Bool} {N : Nat} (h : Q a.1 a.2 N) (e : a = b) : Q b.1 b.2 N := e ▸ h
theorem zNa (b : Bool) : tf 194 [.bool b] (bI b) := fun N Q hQ => zOq b N Q fun N' h => Qi (hQ N' h) (by cases b <;> rfl)
theorem zPT (b : Bool) : tf 196 [.bool b] (bI b) := fun N Q hQ => zP8 b N Q fun N' h => Qi (hQ N' h) (by cases b <;> rfl)
theorem r5 (s : ByteArray) (a b : Int) : zPP 153 [.str s, .int .i64 a, .int .i64 b] (yU s a b) := fun N Q hQ => by
 refine zDk N s a b Q fun N1 hN1 => xm _ _ _ N1 _ fun N2 hN2 _ => ?_
 by_cases ha : inB a 0 10006 = true
 rotate_left
 ·have ha : inB a 0 10006 = false := by simpa using ha
  rw [ha]
  simp only [Bool.not_false, zAs]
  have e : yU s a b = (0, false) := by unfold yU; rw [if_neg (by rw [ha]; decide)]
  exact fun N3 hN3 => Qp (b := (0, false)) (hQ N3 (by omega)) e
 rw [ha]
 simp only [Bool.not_true, zCD]
 intro N4 hN4
 refine xm _ _ _ N4 _ fun N5 hN5 _ => ?_
 by_cases hb : inB b 0 10006 = true
 rotate_left
 ·have hb : inB b 0 10006 = false := by simpa using hb
  rw [hb]
  simp only [Bool.not_false, zAs]
  have e : yU s a b = (0, false) := by unfold yU; rw [if_pos ha, if_neg (by rw [hb]; decide)]
  exact fun N3 hN3 => Qp (b := (0, false)) (hQ N3 (by omega)) e
 rw [hb]
 simp only [Bool.not_true, zCD]
 have hai := yJ.1 ha
 have hbi := yJ.1 hb
 have hm := zN3 hai hbi
 rw [i64_in (a + b) (by omega), i64_in (a - b) (by omega), i64_in (a * b) (by omega)]
 have fin : ∀ (x : Int) (y : Bool) (N' : Nat), N ≤ N' → yU s a b = (x, y) → Q x y N' := fun x y N' h e => Qp (b := (x, y)) (hQ N' h) e
 unfold yU at fin
 rw [if_pos ha, if_pos hb] at fin
 clear hQ
 repeat' first|with_reducible intro _|simp only[Y1,Y2,Y3,Y4]|(with_reducible first|refine X1 ?_ ?_|refine X2 ?_ ?_|refine X3 ?_ ?_|refine X4 ?_ ?_|refine X5 ?_ ?_|refine X6 ?_ ?_|refine X7 ?_ ?_|refine X8 ?_ ?_|refine X9 ?_ ?_)|refine⟨_,_,_,rfl,?_⟩|refine⟨_,rfl,?_⟩|((with_reducible refine And.intro ?_ ?_);·first|omega|trivial|(show _=_;rfl)|((with_reducible refine And.intro ?_ ?_)<;>first|omega|trivial|(show _=_;rfl)))|refine (zF2 _) _ _ ?_|refine (zNa _) _ _ ?_|fail
 all_goals
  refine fin _ _ _ (by omega) ?_
  (repeat' split) <;> first | rfl | contradiction | (simp_all; done) | (congr 1; rw [show (a == 1) = false by simpa using ‹¬a = 1›]; rfl)
theorem qQ (s : ByteArray) (a b : Int) : zPP 154 [.str s, .int .i64 a, .int .i64 b] (yU s a b) := fun N Q hQ => by
 refine zET N s a b Q fun N1 hN1 => wJ _ N1 _ fun N2 hN2 _ => ?_
 by_cases ha : inB a 0 10006 = true
 rotate_left
 ·have ha : inB a 0 10006 = false := by simpa using ha
  rw [ha]
  simp only [Bool.not_false, zAs]
  have e : yU s a b = (0, false) := by unfold yU; rw [if_neg (by rw [ha]; decide)]
  exact fun N3 hN3 => Qp (b := (0, false)) (hQ N3 (by omega)) e
 rw [ha]
 simp only [Bool.not_true, zCD]
 intro N4 hN4
 refine wJ _ N4 _ fun N5 hN5 _ => ?_
 by_cases hb : inB b 0 10006 = true
 rotate_left
 ·have hb : inB b 0 10006 = false := by simpa using hb
  rw [hb]
  simp only [Bool.not_false, zAs]
  have e : yU s a b = (0, false) := by unfold yU; rw [if_pos ha, if_neg (by rw [hb]; decide)]
  exact fun N3 hN3 => Qp (b := (0, false)) (hQ N3 (by omega)) e
 rw [hb]
 simp only [Bool.not_true, zCD]
 have hai := yJ.1 ha
 have hbi := yJ.1 hb
 have hm := zN3 hai hbi
 rw [i64_in (a + b) (by omega), i64_in (a - b) (by omega), i64_in (a * b) (by omega)]
 have fin : ∀ (x : Int) (y : Bool) (N' : Nat), N ≤ N' → yU s a b = (x, y) → Q x y N' := fun x y N' h e => Qp (b := (x, y)) (hQ N' h) e
 unfold yU at fin
 rw [if_pos ha, if_pos hb] at fin
 clear hQ
 repeat' first|with_reducible intro _|simp only[Y1,Y2,Y3,Y4]|(with_reducible first|refine X1 ?_ ?_|refine X2 ?_ ?_|refine X3 ?_ ?_|refine X4 ?_ ?_|refine X5 ?_ ?_|refine X6 ?_ ?_|refine X7 ?_ ?_|refine X8 ?_ ?_|refine X9 ?_ ?_)|refine⟨_,_,_,rfl,?_⟩|refine⟨_,rfl,?_⟩|((with_reducible refine And.intro ?_ ?_);·first|omega|trivial|(show _=_;rfl)|((with_reducible refine And.intro ?_ ?_)<;>first|omega|trivial|(show _=_;rfl)))|refine (zGL _) _ _ ?_|refine (zPT _) _ _ ?_|fail
 all_goals
  refine fin _ _ _ (by omega) ?_
  (repeat' split) <;> first | rfl | contradiction | (simp_all; done) | (congr 1; rw [show (a == 1) = false by simpa using ‹¬a = 1›]; rfl)
theorem zEE {t : Ty} {d : D} (hd : t.Is d) (n : Int) : wS 59 [.dg 2 d, .int .i64 n] (zBj t n) := fun N Q hQ => by
 cases t with
 | mk k l =>
 obtain ⟨a, es, c, rfl, hlen, hes⟩ := Ty.is_mk.1 hd
 refine zDp N _ n Q fun _ => ⟨_, rfl, Br.beq (fun h N1 hN1 => ?_) fun h N4 hN4 => ?_⟩
 ·refine xm _ _ _ N1 _ fun N2 hN2 _ N3 hN3 => Qb (hQ _ (by omega)) ?_
  unfold zBj; rw [show (Ty.mk k l).k = k from rfl, if_pos h]
 ·refine xm _ _ _ N4 _ fun N2 hN2 _ N3 hN3 => Qb (hQ _ (by omega)) ?_
  unfold zBj; rw [show (Ty.mk k l).k = k from rfl, if_neg h]
theorem zHq {t : Ty} {d : D} (hd : t.Is d) (n : Int) : wS 118 [.dg 2 d, .int .i64 n] (zBj t n) := fun N Q hQ => by
 cases t with
 | mk k l =>
 obtain ⟨a, es, c, rfl, hlen, hes⟩ := Ty.is_mk.1 hd
 refine zHj N _ n Q fun _ => ⟨_, rfl, Br.beq (fun h N1 hN1 => ?_) fun h N4 hN4 => ?_⟩
 ·refine zq _ _ _ N1 _ fun N2 hN2 _ N3 hN3 => Qb (hQ _ (by omega)) ?_
  unfold zBj; rw [show (Ty.mk k l).k = k from rfl, if_pos h]
 ·refine wJ _ N4 _ fun N2 hN2 _ N3 hN3 => Qb (hQ _ (by omega)) ?_
  unfold zBj; rw [show (Ty.mk k l).k = k from rfl, if_neg h]
end Go.Proofs.YtfkmegifjiiclaaGreat

/- What bodies come to: the two evaluators. -/
set_option linter.unusedVariables false
set_option linter.unusedSimpArgs false
namespace Go.Proofs.YtfkmegifjiiclaaGreat
open Go Go.Proofs Go.Proofs.Tryz Go.IntWalk

def nbD (b : Nb) : D := .ag [.lit (.string b.1), .lit (.int .i64 b.2)]
theorem zPm {v : List Nb} {i : Nat} {b : Nb} (h : v[i]? = some b) : (v.map nbD).getD i default = nbD b := by simp [List.getD_eq_getElem?_getD, h]
theorem rX : ∀ {l : List Tm} {g : List Tg} {n : Int} {ts : List Ty}, ze l g n = some ts → ∀ x ∈ l, ∃ u, x.type g n = some u
 | y :: ys, g, n, ts, h, x, hx => by
   obtain ⟨u, vs, h1, h2, _⟩ := yD h
   rcases List.mem_cons.1 hx with rfl | hx
   ·exact ⟨u, h1⟩
   ·exact rX h2 x hx
theorem vL {k : Int} {nm ot : ByteArray} {n m : Int} {ty re : Ty} {l : List Tm} {g : List Tg} {u : Ty} (h : (Tm.mk k nm ot n ty re l).type g m = some u) (hk : k = 4 ∨ k = 5) : ∃ ts, ze l g m = some ts ∧ yV k nm ts = some u := by
 simp only [Tm.type] at h
 obtain ⟨h, _⟩ := pz h
 rw [if_neg (by omega), if_neg (by omega), if_neg (by omega), if_neg (by omega), if_neg (by omega), if_neg (by omega), if_neg (by omega)] at h
 split at h
 ·exact ⟨_, by assumption, h⟩
 ·cases h
theorem zGP {nm ot : ByteArray} {n m : Int} {ty re : Ty} {x0 x1 : Tm} {g : List Tg} {u : Ty} (h : (Tm.mk 8 nm ot n ty re [x0, x1]).type g m = some u) : ∃ a, x0.type g m = some a ∧ x1.type (g ++ [⟨nm, a, m⟩]) m = some u := by
 simp only [Tm.type] at h
 obtain ⟨h, _⟩ := pz h
 rw [if_neg (by omega), if_neg (by omega), if_neg (by omega), if_neg (by omega)] at h
 simp only [if_true, wu] at h
 split at h
 ·exact ⟨_, by assumption, h⟩
 ·cases h
theorem zMy {nm ot : ByteArray} {n m : Int} {ty re : Ty} {l : List Tm} {g : List Tg} {u : Ty} (h : (Tm.mk 1 nm ot n ty re l).type g m = some u) : rp g nm m = some u := by
 simp only [Tm.type] at h
 exact (pz h).1
theorem zOM (s : ByteArray) : zIx s = 0 ∨ zIx s = 1 ∨ zIx s = 2 := by unfold zIx; (repeat' split) <;> simp
/-- an operation's parts: one or two -/
theorem zJr {nm ot : ByteArray} {n : Int} {ty re : Ty} {l : List Tm} {es : List D} (h : (Tm.mk 4 nm ot n ty re l).ok = true) (hes : All2 Tm.Is l es) : (∃ x0 d0, l = [x0] ∧ es = [d0] ∧ x0.Is d0) ∨ ∃ x0 x1 d0 d1, l = [x0, x1] ∧ es = [d0, d1] ∧ x0.Is d0 ∧ x1.Is d1 := by
 have node := za h
 have har := node.ar
 have hf := node.f
 simp only [yF, sq, Bool.and_eq_true] at hf
 have hn := hf.2.2.2.2.2
 simp only [if_true, Bool.and_eq_true, decide_eq_true_eq] at hn
 rw [show r8 4 nm = zIx nm from rfl] at har
 have ho := zOM nm
 match l, es, hes with
 | [x0], _, ⟨d0, ds, e1, h0, e2⟩ => subst e2; subst e1; exact .inl ⟨x0, d0, rfl, rfl, h0⟩
 | [x0, x1], _, ⟨d0, ds, e1, h0, d1, ds2, e2, h1, e3⟩ => subst e3; subst e2; subst e1; exact .inr ⟨x0, x1, d0, d1, rfl, rfl, h0, h1⟩
 | [], _, _ => simp at har; omega
 | _ :: _ :: _ :: _, _, _ => simp at har; omega
theorem zCj : ∀ (t : Tm) (d : D), t.Is d → t.ok = true → t.isB = true → ∀ (g : List Tg) (u : Ty), t.type g 0 = some u → ∀ (v : List Nb), Fit v g → ∀ (a : Option Addr) (c : Nat), v.length + t.cnt ≤ 1073741824 →
  tf 110 [.dg 9 d, .sv a 2 (v.map nbD) c] (t.ev v) := by
 refine Tm.ind fun k nm ot n0 ty re l ih d hd hok hb g u hu v hf a c hc N Q hQ => ?_
 obtain ⟨t0, t1, r0, r1, a1, es, c1, rfl, hh, hlen, hes⟩ := Tm.is_mk.1 hd
 have node := za hok
 have hb2 := hb
 simp only [Tm.isB, Bool.and_eq_true, zBy, Bool.or_eq_true, yJ, beq_iff_eq] at hb2
 obtain ⟨hbl, hk⟩ := hb2
 simp only [Tm.cnt] at hc
 have hvl : (v.map nbD).length = v.length := by simp
 have ihl : ∀ x ∈ l, ∀ d, x.Is d → ∀ g u, x.type g 0 = some u → ∀ v, Fit v g → ∀ a c, v.length + x.cnt ≤ 1073741824 → tf 110 [.dg 9 d, .sv a 2 (v.map nbD) c] (x.ev v) := fun x hx d hd => ih x hx d hd (node.sub x hx) (xL hbl hx)
 refine zEd N _ a _ c Q fun _ _ => ⟨_, rfl, Br.beq (fun h1 => ?_) fun h1 => Br.beq (fun h4 => ?_) fun h4 => Br.beq (fun h5 => ?_) fun h5 => Br.beq (fun h8 => ?_) fun h8 => ?_⟩
 ·-- a name
  simp only [Tm.ev] at hQ
  rw [if_pos h1] at hQ
  have look : ∀ (i : Nat), i ≤ v.length → ∀ N1, N ≤ N1 → (∀ N', N1 ≤ N' → Q ((zG4 nm (v.take i)).getD n0) N') → xh Q N a (v.map nbD) c ((i : Int) - 1) (.ag [.lit (.int .i64 k), .lit (.string nm), .lit (.string ot), .lit (.int .i64 n0), t0, t1, r0, r1, .sl a1 9 es c1]) N1 := by
   intro i
   induction i with
   | zero =>
     intro hi N1 hN1 hQ1
     refine tz _ _ _ _ _ _ _ _ ?_
     have e : decide (((0 : Nat) : Int) - 1 ≥ 0) = false := by simp
     repeat' first|with_reducible intro _|simp only[e,Y1,Y2,Y3,Y4]|(with_reducible first|refine X1 ?_ ?_|refine X2 ?_ ?_|refine X3 ?_ ?_|refine X4 ?_ ?_|refine X5 ?_ ?_|refine X6 ?_ ?_|refine X7 ?_ ?_|refine X8 ?_ ?_|refine X9 ?_ ?_)|refine⟨_,_,_,rfl,?_⟩|refine⟨_,rfl,?_⟩|((with_reducible refine And.intro ?_ ?_);·first|omega|trivial|(show _=_;rfl)|((with_reducible refine And.intro ?_ ?_)<;>first|omega|trivial|(show _=_;rfl)))|fail
     exact Qi (hQ1 _ (by omega)) rfl
   | succ i ihi =>
     intro hi N1 hN1 hQ1
     have hlt : i < v.length := by omega
     have hg : v[i]? = some v[i] := List.getElem?_eq_getElem hlt
     have hgd := zPm hg
     refine tz _ _ _ _ _ _ _ _ ?_
     have e0 : (((i + 1 : Nat) : Int) - 1) = (i : Int) := by omega
     have e : decide ((i : Int) ≥ 0) = true := decide_eq_true (by omega)
     have ew : IntKind.i64.wrap ((i : Int) - 1) = (i : Int) - 1 := i64_in _ (by omega)
     rw [e0]
     rw [zY hg, zFK] at hQ1
     repeat' first|with_reducible intro _|simp only[e, ew, Int.toNat_natCast, hgd, nbD, if_true, eq_self,Y1,Y2,Y3,Y4]|(with_reducible first|refine X1 ?_ ?_|refine X2 ?_ ?_|refine X3 ?_ ?_|refine X4 ?_ ?_|refine X5 ?_ ?_|refine X6 ?_ ?_|refine X7 ?_ ?_|refine X8 ?_ ?_|refine X9 ?_ ?_)|refine⟨_,_,_,rfl,?_⟩|refine⟨_,rfl,?_⟩|((with_reducible refine And.intro ?_ ?_);·first|omega|trivial|(show _=_;rfl)|((with_reducible refine And.intro ?_ ?_)<;>first|omega|trivial|(show _=_;rfl)))|fail
     ·rename_i hs _ _
      exact Qi (hQ1 _ (by omega)) (by rw [if_pos hs]; rfl)
     ·rename_i hs
      exact ihi (by omega) N1 (by omega) fun N' h => Qi (hQ1 N' h) (by rw [if_neg hs])
  rw [hvl, i64_in _ (by omega)]
  exact look v.length (Nat.le_refl _) N (Nat.le_refl _) (by rw [List.take_length]; exact hQ)
 ·-- an operation
  simp only [Tm.ev] at hQ
  rw [if_neg h1, if_pos h4] at hQ
  subst h4
  obtain ⟨ts, hts, _⟩ := vL hu (.inl rfl)
  have htm := rX hts
  rcases zJr hok hes with ⟨x0, d0, rfl, rfl, i0⟩ | ⟨x0, x1, d0, d1, rfl, rfl, i0, i1⟩
  ·obtain ⟨u0, hu0⟩ := htm x0 (by simp)
   simp only [zJ] at hc
   have c0 := ihl x0 (by simp) d0 i0 g u0 hu0 v hf a c (by omega)
   have hap := r5 nm (x0.ev v) 0
   have e1 : (([d0] : List D).length : Int) = 1 := rfl
   repeat' first|with_reducible intro _|simp only[List.getD_cons_zero, List.length_cons, List.length_nil,Y1,Y2,Y3,Y4]|(with_reducible first|refine X1 ?_ ?_|refine X2 ?_ ?_|refine X3 ?_ ?_|refine X4 ?_ ?_|refine X5 ?_ ?_|refine X6 ?_ ?_|refine X7 ?_ ?_|refine X8 ?_ ?_|refine X9 ?_ ?_)|refine⟨_,_,_,rfl,?_⟩|refine⟨_,rfl,?_⟩|((with_reducible refine And.intro ?_ ?_);·first|omega|trivial|(show _=_;rfl)|((with_reducible refine And.intro ?_ ?_)<;>first|omega|trivial|(show _=_;rfl)))|refine c0 _ _ ?_|refine hap _ _ ?_|fail
   all_goals first
    | exact Qi (hQ _ (by omega)) rfl
    | (rename_i h _ _; simp at h)
  ·obtain ⟨u0, hu0⟩ := htm x0 (by simp)
   obtain ⟨u1, hu1⟩ := htm x1 (by simp)
   simp only [zJ] at hc
   have c0 := ihl x0 (by simp) d0 i0 g u0 hu0 v hf a c (by omega)
   have c1 := ihl x1 (by simp) d1 i1 g u1 hu1 v hf a c (by omega)
   have hap := r5 nm (x0.ev v) (x1.ev v)
   repeat' first|with_reducible intro _|simp only[List.getD_cons_zero, List.getD_cons_succ, List.length_cons, List.length_nil,Y1,Y2,Y3,Y4]|(with_reducible first|refine X1 ?_ ?_|refine X2 ?_ ?_|refine X3 ?_ ?_|refine X4 ?_ ?_|refine X5 ?_ ?_|refine X6 ?_ ?_|refine X7 ?_ ?_|refine X8 ?_ ?_|refine X9 ?_ ?_)|refine⟨_,_,_,rfl,?_⟩|refine⟨_,rfl,?_⟩|((with_reducible refine And.intro ?_ ?_);·first|omega|trivial|(show _=_;rfl)|((with_reducible refine And.intro ?_ ?_)<;>first|omega|trivial|(show _=_;rfl)))|refine c0 _ _ ?_|refine c1 _ _ ?_|refine hap _ _ ?_|fail
   all_goals first
    | exact Qi (hQ _ (by omega)) rfl
    | (rename_i h _ _; simp at h)
 ·-- a condition
  have hfit := qc
  simp only [Tm.ev] at hQ
  rw [if_neg h1, if_neg h4, if_pos h5] at hQ
  subst h5
  obtain ⟨ts, hts, hfm⟩ := vL hu (.inr rfl)
  obtain ⟨x0, x1, x2, d0, d1, d2, rfl, rfl, i0, i1, i2⟩ := tF hes (node.ar.trans rfl)
  obtain ⟨u0, us0, e0, q6, e3⟩ := yD hts
  obtain ⟨u1, us1, e1, q7, e4⟩ := yD q6
  obtain ⟨u2, us2, e2, q8, e5⟩ := yD q7
  subst e5; subst e4; subst e3
  simp only [zJ] at hc
  have c0 := ihl x0 (by simp) d0 i0 g u0 e0 v hf a c (by omega)
  have c1 := ihl x1 (by simp) d1 i1 g u1 e1 v hf a c (by omega)
  have c2 := ihl x2 (by simp) d2 i2 g u2 e2 v hf a c (by omega)
  have hu0 : u0.k = 2 := by
   unfold yV at hfm
   rw [if_neg (by omega), if_pos rfl] at hfm
   split at hfm
   ·rename_i hcc; exact hcc.1
   ·cases hfm
  have hv := zAC hu0 (qc x0 (node.sub _ (by simp)) (xL hbl (by simp)) g v hf u0 e0)
  refine ⟨_, _, _, rfl, _, _, _, rfl, ⟨by omega, by simp⟩, fun N11 hN11 => c0 N11 _ fun N12 hN12 _ => ?_⟩
  have ev0 : zIw [x0, x1, x2] 0 v = x0.ev v := rfl
  rw [ev0] at hQ
  rcases hv with hv | hv
  ·rw [hv] at hQ ⊢
   rw [show IntKind.i64.wrap (2 - 0) = 2 from rfl]
   refine ⟨⟨by omega, by simp⟩, fun N13 hN13 => c2 N13 _ fun N14 hN14 _ N15 hN15 => hQ _ (by omega)⟩
  ·rw [hv] at hQ ⊢
   rw [show IntKind.i64.wrap (2 - 1) = 1 from rfl]
   refine ⟨⟨by omega, by simp⟩, fun N13 hN13 => c1 N13 _ fun N14 hN14 _ N15 hN15 => hQ _ (by omega)⟩
 ·-- a let
  simp only [Tm.ev] at hQ
  rw [if_neg h1, if_neg h4, if_neg h5, if_pos h8] at hQ
  subst h8
  obtain ⟨x0, x1, d0, d1, rfl, rfl, i0, i1⟩ := vO hes (node.ar.trans rfl)
  obtain ⟨u0, e0, e1⟩ := zGP hu
  simp only [zJ] at hc
  have hp0 := x0.cnt_pos
  have c0 := ihl x0 (by simp) d0 i0 g u0 e0 v hf a c (by omega)
  have hf2 := hf.snoc (x := ⟨nm, u0, 0⟩) (y := (nm, x0.ev v)) rfl (qc x0 (node.sub _ (by simp)) (xL hbl (by simp)) g v hf u0 e0)
  have es1 : ([] ++ v.map nbD) ++ [D.ag [.lit (.string nm), .lit (.int .i64 (x0.ev v))]] = (v ++ [(nm, x0.ev v)]).map nbD := by simp [nbD]
  refine ⟨⟨rfl, rfl⟩, by unfold zB; simp; omega, fun c5 => ⟨_, _, _, rfl, ⟨by omega, by simp⟩, _, rfl, _, _, _, rfl, ⟨by omega, by simp⟩, fun N16 hN16 => c0 N16 _ fun N17 hN17 _ => ⟨⟨rfl, rfl⟩, by unfold zB; simp; omega, fun c8 => ⟨⟨rfl, rfl⟩, fun a7 _ _ N18 hN18 _ => ?_⟩⟩⟩⟩
  rw [es1]
  refine ihl x1 (by simp) d1 i1 _ u e1 _ hf2 a7 c8 (by simp; omega) N18 _ fun N19 hN19 _ N20 hN20 => ?_
  exact hQ _ (by omega)
 ·simp only [Tm.ev] at hQ
  rw [if_neg h1, if_neg h4, if_neg h5, if_neg h8] at hQ
  exact ⟨_, rfl, fun N21 hN21 => hQ _ hN21⟩
def plN (p : Pl) : Nb := (p.1, p.2.1)
theorem zLq (nm : ByteArray) (v : List Pl) : (zHh nm v).2.1 = (zG4 nm (v.map plN)).getD 0 := by
 unfold zHh zG4
 rw [← List.map_reverse, List.find?_map]
 generalize v.reverse = u
 induction u with
 | nil => rfl
 | cons x u ih =>
   by_cases h : x.1 = nm
   ·simp [plN, h]
   ·simp only [List.find?_cons, Function.comp, plN, h, decide_false] at ih ⊢
    exact ih
theorem zJR : ∀ (t : Tm) (d : D), t.Is d → t.ok = true → t.isB = true → ∀ (g : List Tg) (u : Ty), t.type g 0 = some u → ∀ (v : List Pl), Fit (v.map plN) g → ∀ (a : Option Addr) (c : Nat), v.length + t.cnt ≤ 1073741824 →
  tf 112 [.sv a 3 (v.map plD) c, .dg 9 d] (t.ev (v.map plN)) := by
 refine Tm.ind fun k nm ot n0 ty re l ih d hd hok hb g u hu v hf a c hc N Q hQ => ?_
 obtain ⟨t0, t1, r0, r1, a1, es, c1, rfl, hh, hlen, hes⟩ := Tm.is_mk.1 hd
 have node := za hok
 have hb2 := hb
 simp only [Tm.isB, Bool.and_eq_true, zBy, Bool.or_eq_true, yJ, beq_iff_eq] at hb2
 obtain ⟨hbl, hk⟩ := hb2
 simp only [Tm.cnt] at hc
 have ihl : ∀ x ∈ l, ∀ d, x.Is d → ∀ g u, x.type g 0 = some u → ∀ v : List Pl, Fit (v.map plN) g → ∀ a c, v.length + x.cnt ≤ 1073741824 → tf 112 [.sv a 3 (v.map plD) c, .dg 9 d] (x.ev (v.map plN)) := fun x hx d hd => ih x hx d hd (node.sub x hx) (xL hbl hx)
 refine qd N a _ c _ Q fun _ _ => ⟨_, rfl, Br.beq (fun h1 => ?_) fun h1 => Br.beq (fun h2 => ?_) fun h2 => Br.beq (fun h3 => ?_) fun h3 => Br.beq (fun h5 => ?_) fun h5 => Br.beq (fun h8 => ?_) fun h8 => ?_⟩
 ·simp only [Tm.ev] at hQ
  rw [if_pos h1] at hQ
  subst h1
  obtain ⟨m, e1, _⟩ := zMY hf (zMy hu)
  refine ⟨_, rfl, fun N1 hN1 => ?_⟩
  refine zOD v a c nm (by omega) N1 _ fun N2 hN2 _ _ => ⟨_, rfl, fun N3 hN3 => ?_⟩
  exact Qi (hQ _ (by omega)) (by rw [zLq, e1]; rfl)
 ·simp only [Tm.ev] at hQ
  rw [if_neg h1, if_neg (by omega), if_neg (by omega), if_neg (by omega)] at hQ
  exact ⟨_, rfl, fun N5 hN5 => hQ _ (by omega)⟩
 ·simp only [Tm.ev] at hQ
  rw [if_neg h1, if_neg (by omega), if_neg (by omega), if_neg (by omega)] at hQ
  exact ⟨_, rfl, fun N5 hN5 => hQ _ (by omega)⟩
 ·-- a condition
  simp only [Tm.ev] at hQ
  rw [if_neg h1, if_neg (by omega), if_pos h5] at hQ
  subst h5
  obtain ⟨ts, hts, hfm⟩ := vL hu (.inr rfl)
  obtain ⟨x0, x1, x2, d0, d1, d2, rfl, rfl, i0, i1, i2⟩ := tF hes (node.ar.trans rfl)
  obtain ⟨u0, us0, e0, q6, e3⟩ := yD hts
  obtain ⟨u1, us1, e1, q7, e4⟩ := yD q6
  obtain ⟨u2, us2, e2, q8, e5⟩ := yD q7
  subst e5; subst e4; subst e3
  simp only [zJ] at hc
  have c0 := ihl x0 (by simp) d0 i0 g u0 e0 v hf a c (by omega)
  have c1 := ihl x1 (by simp) d1 i1 g u1 e1 v hf a c (by omega)
  have c2 := ihl x2 (by simp) d2 i2 g u2 e2 v hf a c (by omega)
  have hu0 : u0.k = 2 := by
   unfold yV at hfm
   rw [if_neg (by omega), if_pos rfl] at hfm
   split at hfm
   ·rename_i hcc; exact hcc.1
   ·cases hfm
  have hv := zAC hu0 (qc x0 (node.sub _ (by simp)) (xL hbl (by simp)) g _ hf u0 e0)
  refine ⟨_, _, _, rfl, _, _, _, rfl, ⟨by omega, by simp⟩, fun N11 hN11 => c0 N11 _ fun N12 hN12 _ => ?_⟩
  have ev0 : zIw [x0, x1, x2] 0 (v.map plN) = x0.ev (v.map plN) := rfl
  rw [ev0] at hQ
  rcases hv with hv | hv
  ·rw [hv] at hQ ⊢
   rw [show IntKind.i64.wrap (2 - 0) = 2 from rfl]
   refine ⟨⟨by omega, by simp⟩, fun N13 hN13 => c2 N13 _ fun N14 hN14 _ N15 hN15 => hQ _ (by omega)⟩
  ·rw [hv] at hQ ⊢
   rw [show IntKind.i64.wrap (2 - 1) = 1 from rfl]
   refine ⟨⟨by omega, by simp⟩, fun N13 hN13 => c1 N13 _ fun N14 hN14 _ N15 hN15 => hQ _ (by omega)⟩
 ·-- a let
  simp only [Tm.ev] at hQ
  rw [if_neg h1, if_neg (by omega), if_neg h5, if_pos h8] at hQ
  subst h8
  obtain ⟨x0, x1, d0, d1, rfl, rfl, i0, i1⟩ := vO hes (node.ar.trans rfl)
  obtain ⟨u0, e0, e1⟩ := zGP hu
  simp only [zJ] at hc
  have hp0 := x0.cnt_pos
  have c0 := ihl x0 (by simp) d0 i0 g u0 e0 v hf a c (by omega)
  have hf2 := hf.snoc (x := ⟨nm, u0, 0⟩) (y := (nm, x0.ev (v.map plN))) rfl (qc x0 (node.sub _ (by simp)) (xL hbl (by simp)) g _ hf u0 e0)
  have es1 : v.map plN ++ [(nm, x0.ev (v.map plN))] = (v ++ [(nm, x0.ev (v.map plN), false)]).map plN := by simp [plN]
  rw [es1] at hf2
  refine ⟨_, rfl, _, _, _, rfl, ⟨by omega, by simp⟩, _, _, _, rfl, ⟨by omega, by simp⟩, fun N11 hN11 => c0 N11 _ fun N12 hN12 _ N13 hN13 => ?_⟩
  refine zLl v (by omega) (nm, x0.ev (v.map plN), false) a c N13 _ fun a4 c4 N14 hN14 _ _ _ N15 hN15 => ?_
  refine ihl x1 (by simp) d1 i1 _ u e1 _ hf2 a4 c4 (by simp; omega) N15 _ fun N16 hN16 _ N17 hN17 => ?_
  rw [← es1]
  exact hQ _ (by omega)
 ·-- an operation
  have h4 : k = 4 := by omega
  simp only [Tm.ev] at hQ
  rw [if_neg h1, if_pos h4] at hQ
  subst h4
  obtain ⟨ts, hts, _⟩ := vL hu (.inl rfl)
  have htm := rX hts
  have w1 : IntKind.i64.wrap ((0 : Int) + 1) = 1 := rfl
  have w2 : IntKind.i64.wrap ((1 : Int) + 1) = 2 := rfl
  refine ⟨_, _, _, rfl, ?_⟩
  rcases zJr hok hes with ⟨x0, d0, rfl, rfl, i0⟩ | ⟨x0, x1, d0, d1, rfl, rfl, i0, i1⟩
  ·obtain ⟨u0, hu0⟩ := htm x0 (by simp)
   simp only [zJ] at hc
   have c0 := ihl x0 (by simp) d0 i0 g u0 hu0 v hf a c (by omega)
   refine zj _ _ _ _ _ _ _ _ _ _ _ _ _ _ _ _ (Br.dec (fun _ => ⟨⟨by omega, by simp⟩, fun N1 hN1 => c0 N1 _ fun N2 hN2 _ => ⟨⟨by omega, by omega, by simp⟩, by simp, ?_⟩⟩) fun h => absurd h (by simp))
   rw [w1]
   refine zj _ _ _ _ _ _ _ _ _ _ _ _ _ _ _ _ (Br.dec (fun h => absurd h (by simp)) fun _ => ⟨_, rfl, ⟨by omega, by omega, by simp⟩, by simp, _, rfl, ⟨by omega, by omega, by simp⟩, by simp, _, rfl, fun N3 hN3 => ?_⟩)
   exact qQ nm (x0.ev (v.map plN)) 0 N3 _ fun N4 hN4 _ N5 hN5 => hQ _ (by omega)
  ·obtain ⟨u0, hu0⟩ := htm x0 (by simp)
   obtain ⟨u1, hu1⟩ := htm x1 (by simp)
   simp only [zJ] at hc
   have c0 := ihl x0 (by simp) d0 i0 g u0 hu0 v hf a c (by omega)
   have c1 := ihl x1 (by simp) d1 i1 g u1 hu1 v hf a c (by omega)
   refine zj _ _ _ _ _ _ _ _ _ _ _ _ _ _ _ _ (Br.dec (fun _ => ⟨⟨by omega, by simp⟩, fun N1 hN1 => c0 N1 _ fun N2 hN2 _ => ⟨⟨by omega, by omega, by simp⟩, by simp, ?_⟩⟩) fun h => absurd h (by simp))
   rw [w1]
   refine zj _ _ _ _ _ _ _ _ _ _ _ _ _ _ _ _ (Br.dec (fun _ => ⟨⟨by omega, by simp⟩, fun N1 hN1 => c1 N1 _ fun N3 hN3 _ => ⟨⟨by omega, by omega, by simp⟩, by simp, ?_⟩⟩) fun h => absurd h (by simp))
   rw [w2]
   refine zj _ _ _ _ _ _ _ _ _ _ _ _ _ _ _ _ (Br.dec (fun h => absurd h (by simp)) fun _ => ⟨_, rfl, ⟨by omega, by omega, by simp⟩, by simp, _, rfl, ⟨by omega, by omega, by simp⟩, by simp, _, rfl, fun N3 hN3 => ?_⟩)
   exact qQ nm (x0.ev (v.map plN)) (x1.ev (v.map plN)) N3 _ fun N4 hN4 _ N5 hN5 => hQ _ (by omega)
end Go.Proofs.YtfkmegifjiiclaaGreat

/- EvalBody: lists of numbers, bodies with arguments, the law. -/
set_option linter.unusedVariables false
set_option linter.unusedSimpArgs false
namespace Go.Proofs.YtfkmegifjiiclaaGreat
open Go Go.Proofs Go.Proofs.Tryz Go.IntWalk

def zM (l : List Int) : List D := l.map fun n => .lit (.int .i64 n)
theorem we (l : List Int) : (zM l).length = l.length := by simp [zM]
theorem zIu {l : List Int} {i : Nat} {b : Int} (h : l[i]? = some b) : (zM l).getD i default = .lit (.int .i64 b) := by simp [zM, List.getD_eq_getElem?_getD, List.getElem?_map, h]
theorem uh : ∀ l : List Int, zA (zM l) = []
 | [] => rfl
 | s :: l => by simp only [zM, List.map_cons, zA, D.foot, List.nil_append]; exact uh l
theorem zFB : ∀ l : List Int, yw (zM l)
 | [] => trivial
 | s :: l => ⟨trivial, zFB l⟩
theorem zNI {N N' : Nat} (l : List Int) : OwnL N N' (zM l) := ⟨by rw [uh]; simp, zFB l, by rw [uh]; simp, by rw [uh]; simp⟩
theorem zFk : ∀ l : List Int, All2 (fun b d => d = .lit (.int .i64 b)) l (zM l)
 | [] => rfl
 | s :: l => ⟨_, _, rfl, rfl, zFk l⟩
/-- returns these numbers in memory of its own -/
def zQW (f : FuncId) (args : List PV) (l : List Int) : Prop := ∀ (N : Nat) (Q : QT [.sl 0]), (∀ a c N', N ≤ N' → Own N N' (.sl a 0 (zM l) c) → Q a (zM l) c N') → ACalls prog f [.sl 0] args N Q
theorem zB4 (l : List Int) (hl : l.length ≤ 1073741824) (a : Option Addr) (c : Nat) : zQW 21 [.sv a 0 (zM l) c] l := fun N Q hQ => by
 have hll := we l
 refine zGm N a _ c Q fun _ => ⟨⟨by omega, by omega, by omega, by omega⟩, ?_⟩
 have key := up (zFk l) (by rw [hll]; omega) (fun i xs => ∀ N', N ≤ N' → wK Q N a (zM l) c ((zM l).length : Int).toNat ((zM l).length : Int).toNat i (zM (l.take i) ++ List.replicate (l.length - i) (.lit (.int .i64 0))) ((zM l).length : Int).toNat N') ?_ ?_
 ·have := key N (Nat.le_refl _)
  simpa [zM] using this
 ·intro i hlt hi N' hN'
  refine rH _ _ _ _ _ _ _ _ _ _ _ ?_
  rw [List.take_of_length_le (by omega), show l.length - i = 0 by omega]
  simp only [List.replicate_zero, List.append_nil]
  rw [hlt]
  refine ⟨⟨by simp, trivial⟩, ⟨by simp, trivial⟩, ⟨by simp, trivial⟩, fun a9 N11 hN11 hf N12 hN12 => ?_⟩
  rw [Int.toNat_natCast]
  exact hQ _ _ _ (by omega) ((uS (N1 := N11) (zNI _) hf (Nat.le_refl _)).mono (Nat.le_refl _) hN12)
 ·intro i x xs hat _ ih2 N' hN'
  have hb := hat.b
  have hlt : i < l.length := by omega
  have hlen : (zM (l.take i) ++ List.replicate (l.length - i) (D.lit (.int .i64 0))).length = l.length := by simp [zM]; omega
  have hset : (zM (l.take i) ++ List.replicate (l.length - i) (D.lit (.int .i64 0))).set i (.lit (.int .i64 x)) = zM (l.take (i + 1)) ++ List.replicate (l.length - (i + 1)) (.lit (.int .i64 0)) := by
   rw [show l.length - i = (l.length - (i + 1)) + 1 by omega, List.replicate_succ, zY hat.g]
   have hli : (zM (l.take i)).length = i := by simp [zM]; omega
   rw [List.set_append_right _ _ (by omega), hli, Nat.sub_self]
   simp [zM]
  refine rH _ _ _ _ _ _ _ _ _ _ _ ?_
  simp only [hat.lt, hat.w, Int.toNat_natCast, zAs, Nat.zero_add]
  refine ⟨⟨by omega, by omega⟩, _, hat.r, ⟨by omega, by omega, by rw [hlen]; omega⟩, by rw [hlen]; omega, ?_⟩
  rw [hset]
  have := ih2 N' hN'
  simpa using this
theorem zNE (l : List Int) (hl : l.length ≤ 4611686018427387904) (a b : Option Addr) (c c' : Nat) : wS 23 [.sv a 0 (zM l) c, .sv b 0 (zM l) c'] true := fun N Q hQ => by
 have key := up (zFk l) (by rw [we]; exact hl) (fun i xs => ∀ (N' : Nat), N ≤ N' → xy Q N a (zM l) c b (zM l) c' i N') ?_ ?_
 ·refine zF0 N _ _ _ _ _ _ Q fun _ _ => Br.bne (fun h => absurd rfl h) fun _ => ?_
  exact key N (Nat.le_refl _)
 ·intro i hlt hi N' hN'
  refine rM _ _ _ _ _ _ _ _ _ _ ?_
  repeat' first|with_reducible intro _|simp only[hlt,Y1,Y2,Y3,Y4]|(with_reducible first|refine X1 ?_ ?_|refine X2 ?_ ?_|refine X3 ?_ ?_|refine X4 ?_ ?_|refine X5 ?_ ?_|refine X6 ?_ ?_|refine X7 ?_ ?_|refine X8 ?_ ?_|refine X9 ?_ ?_)|refine⟨_,_,_,rfl,?_⟩|refine⟨_,rfl,?_⟩|((with_reducible refine And.intro ?_ ?_);·first|omega|trivial|(show _=_;rfl)|((with_reducible refine And.intro ?_ ?_)<;>first|omega|trivial|(show _=_;rfl)))|fail
  exact hQ _ (by omega)
 ·intro i x xs hat _ ih2 N' hN'
  have hb := hat.b
  refine rM _ _ _ _ _ _ _ _ _ _ ?_
  simp only [hat.lt, hat.w, Int.toNat_natCast, zAs]
  refine ⟨⟨by omega, by omega⟩, x, hat.r, ⟨by omega, by omega⟩, x, hat.r, Br.bne (fun h => absurd rfl h) fun _ => ?_⟩
  exact ih2 _ hN'

/-! bodies with arguments -/
def u7 : List Pm → List Int → Bool
 | [], _ => true
 | p :: g, [] => true
 | p :: g, n :: ns => zBj p.ty n && u7 g ns
theorem zJU {g : List Pm} {e : Tm} (h : (y5 g e).isSome = true) : ∃ u, e.type (xw g) 0 = some u := by
 unfold y5 at h
 split at h
 ·exact Option.isSome_iff_exists.1 h
 ·cases h
theorem zDl {g : List Pm} {es : List D} (h : Pms g es) (hg : g.length ≤ 1073741824) (ns : List Int) (hn : ns.length ≤ 1073741824) (a a2 : Option Addr) (c c2 : Nat) :
  wS 62 [.sv a 4 es c, .sv a2 0 (zM ns) c2] (decide (ns.length = g.length) && u7 g ns) := fun N Q hQ => by
 have hl := h.all.len
 have hnl := we ns
 refine zEY N a es c a2 _ c2 Q fun _ _ => Br.bne (fun hne N1 hN1 => ?_) fun heq => ?_
 ·exact Qb (hQ _ hN1) (by rw [decide_eq_false (by omega)]; rfl)
 ·have hnn : ns.length = g.length := by omega
  rw [decide_eq_true hnn, Bool.true_and] at hQ
  have key := up h.all h.len (fun i xs => ∀ (N' : Nat), N ≤ N' → (u7 g ns = u7 xs (ns.drop i)) → xf Q N a2 (zM ns) c2 a es c es.length i N') ?_ ?_
  ·exact key N (by omega) rfl
  ·intro i hlt hi N' hN' hfa
   refine t6 _ _ _ _ _ _ _ _ _ _ _ ?_
   repeat' first|with_reducible intro _|simp only[hlt,Y1,Y2,Y3,Y4]|(with_reducible first|refine X1 ?_ ?_|refine X2 ?_ ?_|refine X3 ?_ ?_|refine X4 ?_ ?_|refine X5 ?_ ?_|refine X6 ?_ ?_|refine X7 ?_ ?_|refine X8 ?_ ?_|refine X9 ?_ ?_)|refine⟨_,_,_,rfl,?_⟩|refine⟨_,rfl,?_⟩|((with_reducible refine And.intro ?_ ?_);·first|omega|trivial|(show _=_;rfl)|((with_reducible refine And.intro ?_ ?_)<;>first|omega|trivial|(show _=_;rfl)))|fail
   exact Qb (hQ _ (by omega)) (by rw [hfa]; rfl)
  ·intro i x xs hat hxs ih2 N' hN' hfa
   have hb2 := hat.b
   have hlt : i < ns.length := by omega
   have hni : ns[i]? = some ns[i] := List.getElem?_eq_getElem hlt
   have hng := zIu hni
   obtain ⟨t0, t1, hd', hnm, hty⟩ := hat.r
   have hdr : ns.drop i = ns[i] :: ns.drop (i + 1) := by rw [List.getElem_cons_drop]
   rw [hdr] at hfa
   simp only [u7] at hfa
   refine t6 _ _ _ _ _ _ _ _ _ _ _ ?_
   have hfit := zHq hty ns[i]
   repeat' first|with_reducible intro _|simp only[hat.lt, hat.w, Int.toNat_natCast, hd', hng,Y1,Y2,Y3,Y4]|(with_reducible first|refine X1 ?_ ?_|refine X2 ?_ ?_|refine X3 ?_ ?_|refine X4 ?_ ?_|refine X5 ?_ ?_|refine X6 ?_ ?_|refine X7 ?_ ?_|refine X8 ?_ ?_|refine X9 ?_ ?_)|refine⟨_,_,_,rfl,?_⟩|refine⟨_,rfl,?_⟩|((with_reducible refine And.intro ?_ ?_);·first|omega|trivial|(show _=_;rfl)|((with_reducible refine And.intro ?_ ?_)<;>first|omega|trivial|(show _=_;rfl)))|refine hfit _ _ ?_|fail
   ·rename_i hx _ _
    exact Qb (hQ _ (by omega)) (by rw [hfa, hx]; rfl)
   ·refine ih2 _ (by omega) ?_
    rename_i hx
    rw [hfa, hx, Bool.true_and]
end Go.Proofs.YtfkmegifjiiclaaGreat
