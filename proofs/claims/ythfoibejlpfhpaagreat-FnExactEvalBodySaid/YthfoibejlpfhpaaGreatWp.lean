/- Which parts of a body depend on late parameters: the reference. -/
import Derived.Test.YthfoibejlpfhpaaGreatWm
import Derived.Test.YthfoibejlpfhpaaGreatWo
import Derived.Test.YthfoibejlpfhpaaGreatWr
import Derived.Test.YthfoibejlpfhpaaGreatWl
set_option linter.unusedVariables false
set_option linter.unusedSimpArgs false
namespace Go.Proofs.YthfoibejlpfhpaaGreat
open Go Go.Proofs Go.Proofs.Tryz Go.IntWalk

end Go.Proofs.YthfoibejlpfhpaaGreat

/- Which parts of a body depend on late parameters: the reference's walk. -/
set_option linter.unusedVariables false
set_option linter.unusedSimpArgs false
namespace Go.Proofs.YthfoibejlpfhpaaGreat
open Go Go.Proofs Go.Proofs.Tryz Go.IntWalk

theorem two_parts {l : List Tm} {es : List D} (h : All2 Tm.Is l es) (hl : (l.length : Int) = 2) : ∃ x0 x1 d0 d1, l = [x0, x1] ∧ es = [d0, d1] ∧ x0.Is d0 ∧ x1.Is d1 := by
  have he := h.len
  match l, es, h with
  | [x0, x1], es, ⟨d0, ds, e1, h0, d1, ds2, e2, h1, e3⟩ => subst e3; subst e2; subst e1; exact ⟨x0, x1, d0, d1, rfl, rfl, h0, h1⟩
  | [], _, _ => simp at hl
  | [_], _, _ => simp at hl
  | _ :: _ :: _ :: _, _, _ => simp at hl; omega
theorem Tm.cnt_pos (t : Tm) : 1 ≤ t.cnt := by cases t; simp only [Tm.cnt]; omega
theorem bodyTy_some {g : List Pm} {e : Tm} (h : (bodyTy g e).isSome = true) : pmsOk g = true ∧ e.vd = true ∧ e.isB = true := by
  unfold bodyTy at h
  split at h
  · assumption
  · cases h
theorem vd_ok {e : Tm} (h : e.vd = true) : e.ok = true := by
  simp only [Tm.vd, Bool.and_eq_true] at h
  exact h.2
end Go.Proofs.YthfoibejlpfhpaaGreat

/- Which parts of a body depend on late parameters: the program. -/
set_option linter.unusedVariables false
set_option linter.unusedSimpArgs false
namespace Go.Proofs.YthfoibejlpfhpaaGreat
open Go Go.Proofs Go.Proofs.Tryz Go.IntWalk

theorem pl_foot : ∀ v : List Pl, footL (v.map plD) = []
  | [] => rfl
  | b :: v => by simp only [List.map_cons, footL, pl_foot v]; rfl
theorem pl_flat : ∀ v : List Pl, flat0L (v.map plD)
  | [] => trivial
  | b :: v => ⟨⟨trivial, trivial, trivial, trivial⟩, pl_flat v⟩
theorem own_pls {N N' : Nat} (v : List Pl) : OwnL N N' (v.map plD) := ⟨by rw [pl_foot]; simp, pl_flat v, by rw [pl_foot]; simp, by rw [pl_foot]; simp⟩
theorem c_clonePl (v : List Pl) (hv : v.length ≤ 1073741824) (a : Option Addr) (c : Nat) (N : Nat) (Q : QT [.row 98 3]) (hQ : ∀ c' N', N ≤ N' → Q (v.map plD) c' N') : ACalls prog 104 [.row 98 3] [.sv a 3 (v.map plD) c] N Q := by
  have main : (a = none → v.map plD = []) → ACalls prog 104 [.row 98 3] [.sv a 3 (v.map plD) c] N Q := fun hn => by
    refine w_slices_Clone_place_places N a _ c Q fun _ => Br.of (fun hi N1 hN1 => ?_) fun _ => ⟨⟨rfl, rfl⟩, ?_, fun c2 => ⟨⟨rfl, rfl⟩, fun N2 hN2 => ?_⟩⟩
    · have := hn (by simpa using hi)
      have h2 := hQ 0 N1 hN1
      rwa [this] at h2
    · unfold apBound; simp; omega
    · exact hQ _ _ hN2
  cases a with
  | some ad => exact main (by simp)
  | none =>
    by_cases hne : v.map plD = []
    · exact main fun _ => hne
    · exact ac_nil (z := 3) (c := c) (es := v.map plD) (by kernel_rfl) (by simp) hne
theorem c_and (v : List Pl) (hv : v.length ≤ 1073741824) (p : Pl) (a : Option Addr) (c : Nat) (N : Nat) (Q : QT [.sl 3]) (hQ : ∀ a' c' N', N ≤ N' → Own N N' (.sl a' 3 ((v ++ [p]).map plD) c') → Q a' ((v ++ [p]).map plD) c' N') :
    ACalls prog 66 [.sl 3] [.sv a 3 (v.map plD) c, .dg 3 (plD p)] N Q := by
  refine w_impl_places_and N a _ c _ Q fun _ _ N1 hN1 => ?_
  refine c_clonePl v hv a c N1 _ fun c2 N2 hN2 _ _ => ⟨⟨rfl, rfl⟩, ?_, fun c3 => ⟨⟨rfl, rfl⟩, ⟨rfl, rfl⟩, fun a3 N3 hN3 hf N4 hN4 => ?_⟩⟩
  · unfold apBound; simp; omega
  · have e : v.map plD ++ [plD p] = (v ++ [p]).map plD := by simp
    rw [e] at hf ⊢
    exact hQ _ _ _ (by omega) ((own_sl (N1 := N3) (own_pls _) hf (Nat.le_refl _)).mono (Nat.le_refl _) hN4)
end Go.Proofs.YthfoibejlpfhpaaGreat

/- IsDynamic: the program, and the law. -/
set_option linter.unusedVariables false
set_option linter.unusedSimpArgs false
namespace Go.Proofs.YthfoibejlpfhpaaGreat
open Go Go.Proofs Go.Proofs.Tryz Go.IntWalk

end Go.Proofs.YthfoibejlpfhpaaGreat
