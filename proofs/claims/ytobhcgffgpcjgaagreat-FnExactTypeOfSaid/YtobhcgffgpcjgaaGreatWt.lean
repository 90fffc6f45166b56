/- FnExactTypeOf holds as it is stated: for every input that the statement's row admits, the call returns true and each argument reads afterwards as before. No condition of our own. -/
import Derived.Test.YtobhcgffgpcjgaaGreatWa
import Derived.Test.YtobhcgffgpcjgaaGreatWl
namespace Go.Proofs.YtobhcgffgpcjgaaGreat
open Go Go.Proofs Go.Proofs.Tryz Go.ChangeShapes Go.WideShapes Go.ChangeAt Go.RowKit

set_option maxHeartbeats 1600000 in
set_option maxRecDepth 100000 in
theorem fnExactTypeOf_lifted (os : Os) (started : os.Started) (H : Type) (enc : TypeId × Value → H) :
    ReturnsInHanded {} checked os 3 .any (Rows.fnExactTypeOfSpec.pre6 enc prog f3 Rows.fnExactTypeOfRow.domain false) (Rows.fnExactTypeOfSpec.post enc prog f3 false true false false) := by
  refine returnsInHanded_of_change_sized (C := checked) ownKnob_none started (by kernel_rfl) func3
    (ChangeSpec.witness6 (enc := enc) (C := checked) false ⟨#[], #[.slice none 0 0, .agg #[.int .i64 0, .string ⟨#[]⟩, .string ⟨#[]⟩, .int .i64 0, .int .i64 0, .slice none 0 0, .int .i64 0, .slice none 0 0, .slice none 0 0], .int .i64 0], []⟩ 8 (by kernel_rfl) (by kernel_rfl) (by kernel_rfl) (by kernel_rfl)) ?_
  intro W base args ds gs before hval0 hW _ hsz _
  have hval : ∀ (j : Nat) t v, f3.params[j]? = some t → args[j]? = some v → Value.okWide prog W .any base t v := hval0
  have hW' := hW
  obtain ⟨p, q, hA0, hV, rfl, hfz, _⟩ := hW
  have hA : DataW.TrodAll enc prog W 0 (fun _ => true) true f3.params.toList args.toList ds p := hA0
  have hsz : (DataW.weightsEach prog (f3.params.toList ++ []) (ds ++ gs)).all (· ≤ reachBytes) = true := hsz
  rw [params3] at hA hval hsz
  obtain ⟨v0, v1, v2, d0, d1, d2, p0, p1, p2, rfl, rfl, rfl, h0, h1, h2⟩ := trodAll_three hA
  obtain ⟨rfl, rfl⟩ := trodVars_none hV
  obtain ⟨n, rfl, rfl, rfl, wn⟩ := open_int underlying3 (hval 2 3 v2 rfl rfl) h2
  obtain ⟨n0, aC, esC, cC, e0, hH0, k0⟩ := slice_in plain_TT (by decide) underlying22 (hval 0 22 v0 rfl rfl) h0 (weights_at hsz (j := 0) rfl rfl)
  obtain ⟨n1, xs, e1, hH1, hI1, k1⟩ := struct_in plain_TT (by decide) (by rw [ez28]; decide) (hval 1 28 v1 rfl rfl) h1 (weights_at hsz (j := 1) rfl rfl)
  rw [ez64] at e0 hH0 k0
  have c28 : prog.cellsOf 28 = 9 := by kernel_rfl
  rw [c28] at e1 hI1
  obtain ⟨a', es', c', hsl, g, ctx⟩ := ctx_of_shp k0
  cases hsl
  obtain ⟨t, ht, _⟩ := tm_of_shp _ _ k1
  have hc := (law_TypeOf ctx ht aC cC n W.heap.size).h (fun _ => False) W rfl (fun _ h => h.elim) (fun p hp => by
    simp only [List.mem_cons, List.not_mem_nil, or_false] at hp
    rcases hp with rfl | rfl | rfl
    · exact ⟨⟨hH0, fun _ _ => id⟩, rfl⟩
    · exact ⟨⟨⟨hH1, fun _ _ => id⟩, hI1⟩, rfl⟩
    · exact ⟨trivial, rfl⟩)
  have hargs : ([PV.sv aC 4 esC cC, .dg 9 (.ag xs), .int .i64 n].map (PV.val [])).toArray = #[v0, v1, .int .i64 n] := by
    simp only [List.map_cons, List.map_nil, e0, e1]; rfl
  rw [hargs] at hc
  refine hc.mono fun e W' hf => ?_
  exact post_true kids full (by rw [params3]; decide) rfl (by kernel_rfl) underlying4 rfl hW' (ret1_of hf)

theorem fnExactTypeOf_holds : Rows.FnExactTypeOfSaid :=
  OpenClaim.holds_of_wide 3 f3 rfl rfl rfl rfl rfl rfl rfl ⟨rfl, rfl, rfl, rfl, rfl⟩ rfl rfl rfl rfl rfl (by kernel_rfl) func3 (by kernel_rfl)
    (of_decide_eq_true (by kernel_rfl)) (by unfold Func.isWrapper; first | (rw [if_pos (by decide +kernel)]; kernel_rfl) | (rw [if_neg (by decide +kernel)]; exact ⟨rfl, rfl⟩))
    (fun os started H enc _ => fnExactTypeOf_lifted os started H enc)

#print axioms fnExactTypeOf_holds
end Go.Proofs.YtobhcgffgpcjgaaGreat
