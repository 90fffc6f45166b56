/- What is left of a body: what it is. -/
import Derived.Test.YtfkmegifjiiclaaGreatWc
import Derived.Test.YtfkmegifjiiclaaGreatWe
import Derived.Test.YtfkmegifjiiclaaGreatWx
set_option linter.unusedVariables false
set_option linter.unusedSimpArgs false
namespace Go.Proofs.YtfkmegifjiiclaaGreat
open Go Go.Proofs Go.Proofs.Tryz Go.IntWalk

def litT (t : Ty) (n : Int) : Tm := .mk (if t.k = 2 then 3 else 2) (bytes []) (bytes []) n (.mk 0 []) (.mk 0 []) []
/-- names, numbers and types in the part at a place -/
def wI (k : Int) (nm : ByteArray) (w : List Pl) (i : Nat) : List Pl := if i = 0 then w else if k = 8 then w ++ [(nm, 0, true)] else w
def hdTz : List Tm → List Tg → Ty
 | [], _ => tZero
 | x :: _, g => tyZ x g 0
def gI (k : Int) (nm : ByteArray) (l : List Tm) (g : List Tg) (i : Nat) : List Tg := if i = 0 then g else if k = 8 then g ++ [⟨nm, hdTz l g, 0⟩] else g
theorem fits_zero (t : Ty) : fits t 0 = true := by unfold fits; split <;> decide
/-- what specialization may count on -/
structure SpC (t : Tm) (w : List Pl) (g : List Tg) : Prop where
 ok : t.ok = true
 b : t.isB = true
 pre : Pre g t 0
 ty : ∃ u, t.type g 0 = some u
 fit : Fit (w.map plN) g
theorem tyZ_of {t : Tm} {g : List Tg} {n : Int} {u : Ty} (h : t.type g n = some u) : tyZ t g n = u := by simp [tyZ, h]
theorem nextL_body {k : Int} (h : bodyK k = true) : nextL k 0 = 0 := by
 simp only [bodyK, Bool.or_eq_true, inB_iff, beq_iff_eq] at h
 unfold nextL; rw [if_neg (by omega), if_neg (by omega)]
end Go.Proofs.YtfkmegifjiiclaaGreat

/- What is left of a body: the reference. -/
set_option linter.unusedVariables false
set_option linter.unusedSimpArgs false
namespace Go.Proofs.YtfkmegifjiiclaaGreat
open Go Go.Proofs Go.Proofs.Tryz Go.IntWalk

theorem flat0L_split : ∀ {u v : List D}, flat0L (u ++ v) → flat0L u ∧ flat0L v
 | [], v, h => ⟨trivial, h⟩
 | y :: u, v, h => by obtain ⟨g1, g2⟩ := flat0L_split (u := u) h.2; exact ⟨⟨h.1, g1⟩, g2⟩
/-- a row of one's own behind the other cells -/
theorem own_row {N0 N1 N3 : Nat} {hd es ds : List D} {a : Option Addr} {z c : Nat} (h : OwnL N0 N1 (hd ++ es)) (hf : Fresh N0 N3 a (.ag es :: (hd ++ ds))) (hN : N1 ≤ N3) : OwnL N0 N3 (hd ++ [.sl a z es c]) := by
 obtain ⟨f1, f2⟩ := flat0L_split h.fl
 have hn := h.nd
 rw [footL_append, List.nodup_append] at hn
 have e : footL (hd ++ [D.sl a z es c]) = footL hd ++ (D.sl a z es c).foot := by simp only [footL_append, footL, List.append_nil]
 have hE : ∀ ad, a = some ad → ad.block ∉ footL es := fun ad h => hf.ap ad h (.ag es) (by simp)
 have hH : ∀ ad, a = some ad → ad.block ∉ footL hd := fun ad h hc => by
  obtain ⟨d, hd', hb⟩ := footL_mem.1 hc
  exact hf.ap ad h d (by simp [hd']) hb
 refine ⟨?_, flat0L_append f1 ⟨⟨fun ad h => hf.off ad h, f2⟩, trivial⟩, fun b hb => ?_, fun b hb => ?_⟩
 ·rw [e, List.nodup_append]
  refine ⟨hn.1, nodup_sl hn.2.1 hE, fun x hx y hy hxy => ?_⟩
  subst hxy
  rcases foot_sl_sub x hy with h9 | ⟨ad, h9, h'⟩
  ·exact hn.2.2 x hx x h9 rfl
  ·subst h'; exact hH ad h9 hx
 ·rw [e] at hb
  rcases List.mem_append.1 hb with hb | hb
  ·exact h.lo b (by rw [footL_append]; exact List.mem_append_left _ hb)
  ·rcases foot_sl_sub b hb with h9 | ⟨ad, h9, h'⟩
   ·exact h.lo b (by rw [footL_append]; exact List.mem_append_right _ h9)
   ·subst h'; exact hf.lo ad h9
 ·rw [e] at hb
  rcases List.mem_append.1 hb with hb | hb
  ·have := h.hi b (by rw [footL_append]; exact List.mem_append_left _ hb); omega
  ·rcases foot_sl_sub b hb with h9 | ⟨ad, h9, h'⟩
   ·have := h.hi b (by rw [footL_append]; exact List.mem_append_right _ h9); omega
   ·subst h'; exact hf.hi ad h9
end Go.Proofs.YtfkmegifjiiclaaGreat

/- What is left of a body: the program. -/
set_option linter.unusedVariables false
set_option linter.unusedSimpArgs false
namespace Go.Proofs.YtfkmegifjiiclaaGreat
open Go Go.Proofs Go.Proofs.Tryz Go.IntWalk

end Go.Proofs.YtfkmegifjiiclaaGreat

/- Parameters split; Specialize: the reference and the program. -/
set_option linter.unusedVariables false
set_option linter.unusedSimpArgs false
namespace Go.Proofs.YtfkmegifjiiclaaGreat
open Go Go.Proofs Go.Proofs.Tryz Go.IntWalk

def nows (g : List Pm) : List Pm := g.filter fun p => !p.dy
def laters (g : List Pm) : List Pm := g.filter fun p => p.dy
theorem nows_len (g : List Pm) : (nows g).length ≤ g.length := List.length_filter_le _ _
theorem laters_len (g : List Pm) : (laters g).length ≤ g.length := List.length_filter_le _ _
theorem nows_snoc {g : List Pm} {x : Pm} : nows (g ++ [x]) = if x.dy then nows g else nows g ++ [x] := by
 unfold nows; rw [List.filter_append]; cases h : x.dy <;> simp [h]
theorem laters_snoc {g : List Pm} {x : Pm} : laters (g ++ [x]) = if x.dy then laters g ++ [x] else laters g := by
 unfold laters; rw [List.filter_append]; cases h : x.dy <;> simp [h]
theorem c_spec_SplitParams {g : List Pm} {es : List D} (h : Pms g es) (hg : g.length ≤ 1073741824) (hc : ∀ x ∈ g, x.ty.cnt ≤ 1073741824) (a : Option Addr) (c : Nat) (N : Nat) (Q : QT [.sl 4, .sl 4])
  (hQ : ∀ a1 es1 c1 a2 es2 c2 N', N ≤ N' → Pms (nows g) es1 → Pms (laters g) es2 → Q a1 es1 c1 a2 es2 c2 N') : ACalls prog 54 [.sl 4, .sl 4] [.sv a 4 es c] N Q := by
 have hl := h.all.len
 refine w_spec_SplitParams N a es c Q fun _ => ?_
 refine up h.all h.len (fun i xs => ∀ (d1 d2 : List D) (q1 q2 N' : Nat), N ≤ N' → All2 Pm.Is (nows (g.take i)) d1 → All2 Pm.Is (laters (g.take i)) d2 → L_spec_SplitParams_4 Q N a es c d1.length q1 d2.length q2 i d1 q1 d2 q2 N') ?_ ?_ [] [] 0 0 N (Nat.le_refl _) rfl rfl
 ·intro i hlt hi d1 d2 q1 q2 N' hN' h1 h2
  refine l_spec_SplitParams_4 _ _ _ _ _ _ _ _ _ _ _ _ _ _ _ ?_
  rw [List.take_of_length_le (by omega)] at h1 h2
  have k1 := h1.len; have k2 := h2.len
  have n1 := nows_len g; have n2 := laters_len g
  rw [hlt]
  exact ⟨⟨rfl, rfl⟩, ⟨rfl, rfl⟩, ⟨rfl, rfl⟩, fun a1 N1 hN1 _ => ⟨⟨rfl, rfl⟩, ⟨rfl, rfl⟩, ⟨rfl, rfl⟩, fun a2 N2 hN2 _ N3 hN3 => hQ _ _ _ _ _ _ _ (by omega) ⟨by omega, h1⟩ ⟨by omega, h2⟩⟩⟩
 ·intro i x xs hat _ ih2 d1 d2 q1 q2 N' hN' h1 h2
  have hb := hat.b
  obtain ⟨t0, t1, hd', hnm, hty⟩ := hat.r
  have k1 := h1.len; have k2 := h2.len
  have n1 := nows_len (g.take i); have n2 := laters_len (g.take i)
  rw [List.length_take] at n1 n2
  refine l_spec_SplitParams_4 _ _ _ _ _ _ _ _ _ _ _ _ _ _ _ ?_
  rw [hat.lt, Int.toNat_natCast, hd', hat.w]
  refine ⟨⟨by omega, by omega⟩, _, rfl, ⟨by omega, by omega⟩, ⟨by omega, by omega⟩, _, rfl, fun N1 hN1 => ?_⟩
  refine c_spec_l3Copy x.ty _ hty (hc x hat.m) N1 _ fun x' N2 hN2 hx hox _ _ => Br.of (fun hdy => ?_) fun hdy => ?_
  ·refine ⟨⟨rfl, rfl⟩, by unfold apBound; rw [List.length_append]; simp only [List.length_cons, List.length_nil]; omega, fun c1 => ?_⟩
   refine ih2 _ _ _ _ _ (by omega) ?_ ?_
   ·rw [take_at hat.g, nows_snoc, if_pos hdy]; exact h1
   ·rw [take_at hat.g, laters_snoc, if_pos hdy]; exact h2.snoc ⟨_, _, rfl, hnm, Ty.is_cells hx⟩
  ·refine ⟨⟨rfl, rfl⟩, by unfold apBound; rw [List.length_append]; simp only [List.length_cons, List.length_nil]; omega, fun c1 => ?_⟩
   refine ih2 _ _ _ _ _ (by omega) ?_ ?_
   ·rw [take_at hat.g, nows_snoc, if_neg (by simp [hdy])]; exact h1.snoc ⟨_, _, rfl, hnm, Ty.is_cells hx⟩
   ·rw [take_at hat.g, laters_snoc, if_neg (by simp [hdy])]; exact h2
theorem c_impl_SplitParams {g : List Pm} {es : List D} (h : Pms g es) (hg : g.length ≤ 1073741824) (hc : ∀ x ∈ g, x.ty.cnt ≤ 1073741824) (a : Option Addr) (c : Nat) (N : Nat) (Q : QT [.sl 4, .sl 4])
  (hQ : ∀ a1 es1 c1 a2 es2 c2 N', N ≤ N' → Pms (nows g) es1 → Pms (laters g) es2 → Q a1 es1 c1 a2 es2 c2 N') : ACalls prog 56 [.sl 4, .sl 4] [.sv a 4 es c] N Q := by
 have hl := h.all.len
 refine w_impl_SplitParams N a es c Q fun _ => ?_
 refine up h.all h.len (fun i xs => ∀ (d1 d2 : List D) (q1 q2 N' : Nat), N ≤ N' → All2 Pm.Is (nows (g.take i)) d1 → All2 Pm.Is (laters (g.take i)) d2 → L_impl_SplitParams_3 Q N d1.length q1 d2.length q2 a es c es.length i d1 q1 d2 q2 N') ?_ ?_ [] [] 0 0 N (Nat.le_refl _) rfl rfl
 ·intro i hlt hi d1 d2 q1 q2 N' hN' h1 h2
  refine l_impl_SplitParams_3 _ _ _ _ _ _ _ _ _ _ _ _ _ _ _ _ ?_
  rw [List.take_of_length_le (by omega)] at h1 h2
  have k1 := h1.len; have k2 := h2.len
  have n1 := nows_len g; have n2 := laters_len g
  rw [hlt]
  exact ⟨⟨rfl, rfl⟩, ⟨rfl, rfl⟩, ⟨rfl, rfl⟩, fun a1 N1 hN1 _ => ⟨⟨rfl, rfl⟩, ⟨rfl, rfl⟩, ⟨rfl, rfl⟩, fun a2 N2 hN2 _ N3 hN3 => hQ _ _ _ _ _ _ _ (by omega) ⟨by omega, h1⟩ ⟨by omega, h2⟩⟩⟩
 ·intro i x xs hat _ ih2 d1 d2 q1 q2 N' hN' h1 h2
  have hb := hat.b
  obtain ⟨t0, t1, hd', hnm, hty⟩ := hat.r
  have k1 := h1.len; have k2 := h2.len
  have n1 := nows_len (g.take i); have n2 := laters_len (g.take i)
  rw [List.length_take] at n1 n2
  refine l_impl_SplitParams_3 _ _ _ _ _ _ _ _ _ _ _ _ _ _ _ _ ?_
  rw [hat.lt, Int.toNat_natCast, hd', hat.w]
  refine ⟨⟨by omega, by omega⟩, _, rfl, _, rfl, fun N1 hN1 => ?_⟩
  refine c_own x.ty _ hty (hc x hat.m) N1 _ fun x' N2 hN2 hx hox _ _ => ⟨_, rfl, Br.of (fun hdy => ?_) fun hdy => ?_⟩
  ·refine ⟨⟨rfl, rfl⟩, by unfold apBound; rw [List.length_append]; simp only [List.length_cons, List.length_nil]; omega, fun c1 => ?_⟩
   refine ih2 _ _ _ _ _ (by omega) ?_ ?_
   ·rw [take_at hat.g, nows_snoc, if_pos hdy]; exact h1
   ·rw [take_at hat.g, laters_snoc, if_pos hdy]; exact h2.snoc ⟨_, _, rfl, hnm, Ty.is_cells hx⟩
  ·refine ⟨⟨rfl, rfl⟩, by unfold apBound; rw [List.length_append]; simp only [List.length_cons, List.length_nil]; omega, fun c1 => ?_⟩
   refine ih2 _ _ _ _ _ (by omega) ?_ ?_
   ·rw [take_at hat.g, nows_snoc, if_neg (by simp [hdy])]; exact h1.snoc ⟨_, _, rfl, hnm, Ty.is_cells hx⟩
   ·rw [take_at hat.g, laters_snoc, if_neg (by simp [hdy])]; exact h2
def CopB (f : FuncId) (args : List PV) (o : Option Tm) : Prop := ∀ (N : Nat) (Q : QT [.ag 9, .bool]), (∀ d' N', N ≤ N' → (o.getD (Tm.nod 0 [])).Is d' → Own N N' d' → Q d' o.isSome N') → ACalls prog f [.ag 9, .bool] args N Q
end Go.Proofs.YtfkmegifjiiclaaGreat
