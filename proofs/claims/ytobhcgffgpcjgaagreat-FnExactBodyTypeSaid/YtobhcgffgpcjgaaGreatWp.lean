/- What was read is a list of parameters. -/
import Derived.Test.YtobhcgffgpcjgaaGreatWa
import Derived.Test.YtobhcgffgpcjgaaGreatWn
import Derived.Test.YtobhcgffgpcjgaaGreatWo
set_option linter.unusedVariables false
set_option maxRecDepth 100000
namespace Go.Proofs.YtobhcgffgpcjgaaGreat
open Go Go.Proofs Go.Proofs.Tryz

theorem ez83 : ezOf prog 83 = 4 := by kernel_rfl
theorem pms_of_shp {n : Nat} {xs : List D} (h : Shp prog n 49 xs) : ∃ a es c, xs = [.sl a 4 es c] ∧ ∃ g, Pms g es := by
  obtain ⟨m, a, es, c, rfl, rfl, hl, hx⟩ := shpSlice underlying49 h
  rw [ez83]
  refine ⟨a, es, c, rfl, ?_⟩
  obtain ⟨g, hg⟩ := all2_choose (R := Pm.Is) (es := es) fun x hxm => by
    have h := hx x hxm
    · obtain ⟨m, rfl, h⟩ := shpStruct underlying83 h
      obtain ⟨a1, b1, hc, h1, a2, b2, rfl, h2, a3, b3, rfl, h3, rfl⟩ := h
      obtain ⟨nm, rfl, hnm⟩ := shpStr underlying9 h1
      obtain ⟨t0, t1, rfl, ty, hty⟩ := ty_of_shp _ _ h2
      obtain ⟨dy, rfl⟩ := shpBool underlying4 h3
      refine ⟨⟨nm, ty, dy⟩, t0, t1, ?_, hnm, hty⟩
      rw [ag_of (x := x) (n := 4) (by rw [hc]; rfl) (by decide), hc]; rfl
  exact ⟨g, hl, hg⟩
end Go.Proofs.YtobhcgffgpcjgaaGreat

/- FnExactBodyType holds as it is stated: for every input that the statement's row admits, the call returns true and each argument reads afterwards as before. No condition of our own. -/
namespace Go.Proofs.YtobhcgffgpcjgaaGreat
open Go Go.Proofs Go.Proofs.Tryz Go.ChangeShapes Go.WideShapes Go.ChangeAt Go.RowKit

set_option maxHeartbeats 1600000 in
set_option maxRecDepth 100000 in
theorem fnExactBodyType_lifted (os : Os) (started : os.Started) (H : Type) (enc : TypeId × Value → H) :
    ReturnsInHanded {} checked os 4 .any (Rows.fnExactBodyTypeSpec.pre6 enc prog Tryz.f4 Rows.fnExactBodyTypeRow.domain false) (Rows.fnExactBodyTypeSpec.post enc prog Tryz.f4 false true false false) := by
  refine returnsInHanded_of_change_sized (C := checked) ownKnob_none started (by kernel_rfl) func4
    (ChangeSpec.witness6 (enc := enc) (C := checked) false ⟨#[], #[.slice none 0 0, .agg #[.int .i64 0, .string ⟨#[]⟩, .string ⟨#[]⟩, .int .i64 0, .int .i64 0, .slice none 0 0, .int .i64 0, .slice none 0 0, .slice none 0 0]], []⟩ 8 (by kernel_rfl) (by kernel_rfl) (by kernel_rfl) (by kernel_rfl)) ?_
  intro W base args ds gs before hval0 hW _ hsz _
  have hval : ∀ (j : Nat) t v, Tryz.f4.params[j]? = some t → args[j]? = some v → Value.okWide prog W .any base t v := hval0
  have hW' := hW
  obtain ⟨p, q, hA0, hV, rfl, hfz, _⟩ := hW
  have hA : DataW.TrodAll enc prog W 0 (fun _ => true) true Tryz.f4.params.toList args.toList ds p := hA0
  have hsz : (DataW.weightsEach prog (Tryz.f4.params.toList ++ []) (ds ++ gs)).all (· ≤ reachBytes) = true := hsz
  rw [params4] at hA hval hsz
  obtain ⟨v0, v1, d0, d1, p0, p1, rfl, rfl, rfl, h0, h1⟩ := trodAll_two hA
  obtain ⟨rfl, rfl⟩ := trodVars_none hV
  obtain ⟨n0, aC, esC, cC, e0, hH0, k0⟩ := slice_in plain_TT (by decide) underlying49 (hval 0 49 v0 rfl rfl) h0 (weights_at hsz (j := 0) rfl rfl)
  obtain ⟨n1, xs, e1, hH1, hI1, k1⟩ := struct_in plain_TT (by decide) (by rw [ez28]; decide) (hval 1 28 v1 rfl rfl) h1 (weights_at hsz (j := 1) rfl rfl)
  rw [ez83] at e0 hH0 k0
  have c28 : prog.cellsOf 28 = 9 := by kernel_rfl
  rw [c28] at e1 hI1
  obtain ⟨a', es', c', hsl, g, ctx⟩ := pms_of_shp k0
  cases hsl
  obtain ⟨t, ht, _⟩ := tm_of_shp _ _ k1
  have hc := (law_BodyType ctx ht aC cC W.heap.size).h (fun _ => False) W rfl (fun _ h => h.elim) (fun p hp => by
    simp only [List.mem_cons, List.not_mem_nil, or_false] at hp
    rcases hp with rfl | rfl
    · exact ⟨⟨hH0, fun _ _ => id⟩, rfl⟩
    · exact ⟨⟨⟨hH1, fun _ _ => id⟩, hI1⟩, rfl⟩)
  have hargs : ([PV.sv aC 4 esC cC, .dg 9 (.ag xs)].map (PV.val [])).toArray = #[v0, v1] := by
    simp only [List.map_cons, List.map_nil, e0, e1]
  rw [hargs] at hc
  refine hc.mono fun e W' hf => ?_
  exact post_true kids full (by rw [params4]; decide) rfl (by kernel_rfl) underlying4 rfl hW' (ret1_of hf)

theorem fnExactBodyType_holds : Rows.FnExactBodyTypeSaid :=
  OpenClaim.holds_of_wide 4 Tryz.f4 rfl rfl rfl rfl rfl rfl rfl ⟨rfl, rfl, rfl, rfl, rfl⟩ rfl rfl rfl rfl rfl (by kernel_rfl) func4 (by kernel_rfl)
    (of_decide_eq_true (by kernel_rfl)) (by unfold Func.isWrapper; first | (rw [if_pos (by decide +kernel)]; kernel_rfl) | (rw [if_neg (by decide +kernel)]; exact ⟨rfl, rfl⟩))
    (fun os started H enc _ => fnExactBodyType_lifted os started H enc)

#print axioms fnExactBodyType_holds
end Go.Proofs.YtobhcgffgpcjgaaGreat
