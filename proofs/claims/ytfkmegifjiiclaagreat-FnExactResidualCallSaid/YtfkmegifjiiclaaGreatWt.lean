/- ResidualCall: the reference, the program, and the law. -/
import Derived.Test.YtfkmegifjiiclaaGreatWs
import Derived.Test.YtfkmegifjiiclaaGreatWx
import Derived.Test.YtfkmegifjiiclaaGreatWa
import Derived.Test.YtfkmegifjiiclaaGreatWn
import Derived.Test.YtfkmegifjiiclaaGreatWe
import Derived.Carry
set_option linter.unusedVariables false
set_option linter.unusedSimpArgs false
namespace Go.Proofs.YtfkmegifjiiclaaGreat
open Go Go.Proofs Go.Proofs.Tryz Go.IntWalk

def residual (g : List Pm) (e : Tm) (ns ms : List Int) : Int × Bool := match special g e ns with
 | some x => evalOf (laters g) x ms
 | none => (0, false)
theorem evalOf_false {g : List Pm} {e : Tm} {ns : List Int} (h : (evalOf g e ns).2 = false) : evalOf g e ns = (0, false) := by
 unfold evalOf at h ⊢
 split
 ·rename_i h1
  rw [if_pos h1] at h
  split
  ·rename_i h2
   rw [if_pos h2] at h
   split
   ·rename_i h3
    rw [if_pos h3] at h
    cases h
   ·rfl
  ·rfl
 ·rfl
theorem evalOf_large {g : List Pm} {e : Tm} {ns : List Int} (h : ¬ e.sz ≤ 80) : evalOf g e ns = (0, false) := by
 have hb : bodyTy g e = none := by
  unfold bodyTy
  rw [if_neg]
  intro ⟨_, hv, _⟩
  simp [Tm.vd] at hv
  exact h hv.1.1
 unfold evalOf
 rw [hb]
 rfl
theorem laters_mem {g : List Pm} {P : Pm → Prop} (h : ∀ x ∈ g, P x) : ∀ x ∈ laters g, P x := fun x hx => h x (List.mem_filter.1 hx).1
theorem c_spec_ResidualCall {g : List Pm} {es : List D} (h : Pms g es) (hg : g.length ≤ 1073741) (hcg : ∀ x ∈ g, x.ty.cnt ≤ 1073741824) {e : Tm} {d : D} (he : e.Is d) (hc : e.cnt ≤ 250000000) (ns ms : List Int) (hn : ns.length ≤ 1073741824) (hm : ms.length ≤ 1073741824) (a a2 a3 : Option Addr) (c c2 c3 : Nat) :
  RetIB 20 [.sv a 4 es c, .dg 9 d, .sv a2 0 (intsD ns) c2, .sv a3 0 (intsD ms) c3] (residual g e ns ms) := fun N Q hQ => by
 have hll := laters_len g
 have hsc := special_cnt g e ns
 refine w_spec_ResidualCall N a es c d a2 _ c2 a3 _ c3 Q fun _ _ _ _ N1 hN1 => ?_
 refine c_spec_Specialize h hg hcg he hc ns hn a a2 c c2 N1 _ fun x N2 hN2 hx _ _ _ N3 hN3 => ?_
 refine c_spec_SplitParams h (by omega) hcg a c N3 _ fun a4 es4 c4 a5 es5 c5 N4 hN4 h4 h5 _ _ _ N5 hN5 => ?_
 refine c_spec_EvalBody h5 (by omega) hx (by omega) ms hm a5 a3 c5 c3 N5 _ fun N6 hN6 _ => ?_
 unfold residual at hQ
 cases ho : special g e ns with
 | none =>
   rw [ho] at hQ
   exact fun N7 hN7 => hQ _ (by omega)
 | some y =>
   rw [ho] at hQ
   simp only [Option.getD_some, Option.isSome_some]
   simp only at hQ
   refine Br.not (fun hb => by cases hb) fun _ => Br.not (fun hb N8 hN8 => ?_) fun hb N9 hN9 => ?_
   ·rw [evalOf_false hb] at hQ
    exact hQ _ (by omega)
   ·have := hQ N9 (by omega)
    rw [hb] at this
    exact this
theorem c_impl_ResidualCall {g : List Pm} {es : List D} (h : Pms g es) (hg : g.length ≤ 1073741) (hcg : ∀ x ∈ g, x.ty.cnt ≤ 1073741824) {e : Tm} {d : D} (he : e.Is d) (hc : e.cnt ≤ 250000000) (ns ms : List Int) (hn : ns.length ≤ 1073741824) (hm : ms.length ≤ 1073741824) (a a2 a3 : Option Addr) (c c2 c3 : Nat) :
  RetIB 22 [.sv a 4 es c, .dg 9 d, .sv a2 0 (intsD ns) c2, .sv a3 0 (intsD ms) c3] (residual g e ns ms) := fun N Q hQ => by
 have hll := laters_len g
 have hsc := special_cnt g e ns
 refine w_impl_ResidualCall N a es c d a2 _ c2 a3 _ c3 Q fun _ _ _ _ N1 hN1 => ?_
 refine c_impl_SplitParams h (by omega) hcg a c N1 _ fun a4 es4 c4 a5 es5 c5 N2 hN2 h4 h5 _ _ _ N3 hN3 => ?_
 refine c_impl_Specialize h hg hcg he hc ns hn a a2 c c2 N3 _ fun x N4 hN4 hx _ _ _ => ?_
 unfold residual at hQ
 cases ho : special g e ns with
 | none =>
   rw [ho] at hQ
   exact fun N5 hN5 => hQ _ (by omega)
 | some y =>
   rw [ho] at hQ hx hsc
   simp only [Option.getD_some] at hx hsc
   simp only at hQ
   refine fun N5 hN5 => ?_
   refine c_impl_SizeOf y x hx (by omega) N5 _ fun N6 hN6 _ => Br.dec (fun hb N7 hN7 => ?_) fun hb N7 hN7 => ?_
   ·rw [evalOf_large (by omega)] at hQ
    exact hQ _ (by omega)
   ·exact c_impl_EvalBody h5 (by omega) (laters_mem hcg) hx (by omega) ms hm a5 a3 c5 c3 N7 _ fun N8 hN8 _ N9 hN9 => hQ _ (by omega)
/-- the law FnExactResidualCall: for all data it answers true -/
theorem law_ResidualCall {g : List Pm} {es : List D} {t : Tm} {d : D} (ctx : Pms g es) (he : t.Is d) (ns ms : List Int) (a a2 b2 : Option Addr) (c c2 e2 : Nat) (N : Nat) :
  ACalls prog 4 [.bool] [.sv a 4 es c, .dg 9 d, .sv a2 0 (intsD ns) c2, .sv b2 0 (intsD ms) e2] N (fun r _ => r = true) := by
 have hnl := intsD_len ns
 have hml := intsD_len ms
 refine w_laws_FnExactResidualCall N a es c d a2 _ c2 b2 _ e2 _ fun hB0 hB1 hB2 hB3 => Br.dec (fun _ N1 _ => rfl) fun hns => Br.dec (fun _ N1 _ => rfl) fun hms N1 hN1 => ?_
 refine c_szParamS ctx a c 1048576 (by omega) (by omega) N1 _ fun r N2 hN2 hr _ => Br.dec (fun _ N3 _ => rfl) fun hneg N4 hN4 => ?_
 obtain ⟨hr0, hr1, hgl, hgc⟩ := hr.resolve_left (by omega)
 refine c_szTerm t d he r (by omega) (by omega) N4 _ fun r2 N5 hN5 hr2 _ => Br.dec (fun _ N6 _ => rfl) fun hneg2 N7 hN7 => ?_
 obtain ⟨hq0, hq1, hcn⟩ := hr2.resolve_left (by omega)
 have hgl : g.length ≤ 1048576 := by omega
 have hgc2 : ∀ x ∈ g, x.ty.cnt ≤ 1073741824 := fun x hx => by have := hgc x hx; omega
 have hgl2 : g.length ≤ 1073741824 := by omega
 have hgl3 : g.length ≤ 1073741 := by omega
 have hcn2 : t.cnt ≤ 1073741824 := by omega
 have hcn4 : t.cnt ≤ 250000000 := by omega
 have hns2 : ns.length ≤ 1073741824 := by omega
 have hms2 : ms.length ≤ 1073741824 := by omega
 clear hr hr2
 refine c_toParamS ctx hgl2 hgc2 a c N7 _ fun a1 es1 c1 N8 hN8 ctx1 own1 _ _ N9 hN9 => ?_
 refine c_toTerm t d he hcn2 N9 _ fun d1 N10 hN10 he1 own2 _ _ N11 hN11 => ?_
 refine c_toIntS ns hns2 a2 c2 N11 _ fun ai ci N12 hN12 _ _ _ N13 hN13 => ?_
 refine c_toIntS ms hms2 b2 e2 N13 _ fun bi fi N14 hN14 _ _ _ N15 hN15 => ?_
 have hSpec := c_spec_ResidualCall ctx1 hgl3 hgc2 he1 hcn4 ns ms hns2 hms2 a1 ai bi c1 ci fi
 have hImpl := fun (es2 : List D) (d2 : D) (ctx2 : Pms g es2) (he2 : t.Is d2) a2 a3 a4 c2 c3 c4 => c_impl_ResidualCall ctx2 hgl3 hgc2 he2 hcn4 ns ms hns2 hms2 a2 a3 a4 c2 c3 c4
 generalize residual g t ns ms = o at hSpec hImpl
 refine hSpec N15 _ fun N16 hN16 _ N17 hN17 => ?_
 refine c_toParamS ctx hgl2 hgc2 a c N17 _ fun a3 es3 c3 N18 hN18 ctx3 own3 _ _ N19 hN19 => ?_
 refine c_toTerm t d he hcn2 N19 _ fun d3 N20 hN20 he3 own4 _ _ N21 hN21 => ?_
 refine c_toIntS ns hns2 a2 c2 N21 _ fun aj cj N22 hN22 _ _ _ N23 hN23 => ?_
 refine c_toIntS ms hms2 b2 e2 N23 _ fun bj fj N24 hN24 _ _ _ N25 hN25 => ?_
 refine hImpl es3 d3 ctx3 he3 a3 aj bj c3 cj fj N25 _ fun N26 hN26 _ => ?_
 refine Br.bne (fun h => absurd rfl h) fun _ => Br.of (fun h => by simp at h) fun _ N31 hN31 => ?_
 refine c_toParamS ctx hgl2 hgc2 a c N31 _ fun a4 es4 c4 N32 hN32 ctx4 _ _ _ N33 hN33 => ?_
 refine c_eqParamS ctx3 ctx4 a3 a4 c3 c4 N33 _ fun N34 hN34 _ => Br.of (fun h => by simp at h) fun _ N36 hN36 => ?_
 refine c_toTerm t d he hcn2 N36 _ fun d5 N37 hN37 he5 _ _ _ N38 hN38 => ?_
 refine c_eqTerm t d3 d5 he3 he5 N38 _ fun N39 hN39 _ => Br.of (fun h => by simp at h) fun _ N41 hN41 => ?_
 refine c_toIntS ns hns2 a2 c2 N41 _ fun ak ck N42 hN42 _ _ _ N43 hN43 => ?_
 refine c_eqIntS ns (by omega) aj ak cj ck N43 _ fun N44 hN44 _ => Br.of (fun h => by simp at h) fun _ N46 hN46 => ?_
 refine c_toIntS ms hms2 b2 e2 N46 _ fun bk fk N47 hN47 _ _ _ N48 hN48 => ?_
 exact c_eqIntS ms (by omega) bj bk fj fk N48 _ fun N49 hN49 _ => Br.of (fun h => by simp at h) fun _ N51 hN51 => rfl
end Go.Proofs.YtfkmegifjiiclaaGreat

/- What was read is a list of parameters. -/
set_option linter.unusedVariables false
set_option maxRecDepth 100000
namespace Go.Proofs.YtfkmegifjiiclaaGreat
open Go Go.Proofs Go.Proofs.Tryz

theorem ez62 : ezOf prog 62 = 4 := by kernel_rfl
theorem pms_of_shp {n : Nat} {xs : List D} (h : Shp prog n 22 xs) : ∃ a es c, xs = [.sl a 4 es c] ∧ ∃ g, Pms g es := by
 obtain ⟨m, a, es, c, rfl, rfl, hl, hx⟩ := shpSlice underlying22 h
 rw [ez62]
 refine ⟨a, es, c, rfl, ?_⟩
 obtain ⟨g, hg⟩ := all2_choose (R := Pm.Is) (es := es) fun x hxm => by
  have h := hx x hxm
  ·obtain ⟨m, rfl, h⟩ := shpStruct underlying62 h
   obtain ⟨a1, b1, hc, h1, a2, b2, rfl, h2, a3, b3, rfl, h3, rfl⟩ := h
   obtain ⟨nm, rfl, hnm⟩ := shpStr underlying9 h1
   obtain ⟨t0, t1, rfl, ty, hty⟩ := ty_of_shp _ _ h2
   obtain ⟨dy, rfl⟩ := shpBool underlying4 h3
   refine ⟨⟨nm, ty, dy⟩, t0, t1, ?_, hnm, hty⟩
   rw [ag_of (x := x) (n := 4) (by rw [hc]; rfl) (by decide), hc]; rfl
 exact ⟨g, hl, hg⟩
end Go.Proofs.YtfkmegifjiiclaaGreat

/- What was read is a list of numbers. -/
set_option linter.unusedVariables false
set_option maxRecDepth 100000
namespace Go.Proofs.YtfkmegifjiiclaaGreat
open Go Go.Proofs Go.Proofs.Tryz

theorem ez3 : ezOf prog 3 = 0 := by kernel_rfl
theorem ints_all2 : ∀ {ns : List Int} {es : List D}, All2 (fun (k : Int) d => d = .lit (.int .i64 k)) ns es → es = intsD ns
 | [], es, h => h
 | n :: ns, es, ⟨d, ds, he, hd, h⟩ => by subst he; subst hd; rw [ints_all2 h]; rfl
theorem ints_of {W : World} {n : Nat} {a : Option Addr} {es : List D} {c : Nat} (hH : Holds W (.sl a 0 es c)) (h : Shp prog n 46 [.sl a 0 es c]) : ∃ ns, es = intsD ns := by
 obtain ⟨m, a', es', c', e, hs, hl, hx⟩ := shpSlice underlying46 h
 have he : es' = es := by cases hs; rfl
 subst he
 have hcell : ∀ x ∈ es', x.isCell := by
  cases hH with
  | nil => intro x hx; simp at hx
  | sl h1 h2 h3 h4 h5 => intro x hx; exact h3 x hx
 obtain ⟨ns, hns⟩ := all2_choose (R := fun (k : Int) d => d = .lit (.int .i64 k)) (es := es') fun x hxm => by
  obtain ⟨k, hk⟩ := shpInt underlying3 (hx x hxm)
  have hc := hcell x hxm
  refine ⟨k, ?_⟩
  cases x <;> simp [D.isCell, D.cells] at hc hk ⊢ <;> exact hk
 exact ⟨ns, ints_all2 hns⟩
end Go.Proofs.YtfkmegifjiiclaaGreat

/- FnExactResidualCall holds as it is stated: for every input that the statement's row admits, the call returns true and each argument reads afterwards as before. No condition of our own. -/
namespace Go.Proofs.YtfkmegifjiiclaaGreat
open Go Go.Proofs Go.Proofs.Tryz Go.ChangeShapes Go.WideShapes Go.ChangeAt Go.RowKit

set_option maxHeartbeats 1600000 in
set_option maxRecDepth 100000 in
theorem fnExactResidualCall_lifted (os : Os) (started : os.Started) (H : Type) (enc : TypeId × Value → H) :
  ReturnsInHanded {} checked os 4 .any (Rows.fnExactResidualCallSpec.pre6 enc prog Tryz.f4 Rows.fnExactResidualCallRow.domain false) (Rows.fnExactResidualCallSpec.post enc prog Tryz.f4 false true false false) := by
 refine returnsInHanded_of_change_sized (C := checked) ownKnob_none started (by kernel_rfl) func4
  (ChangeSpec.witness6 (enc := enc) (C := checked) false ⟨#[], #[.slice none 0 0, .agg #[.int .i64 0, .string ⟨#[]⟩, .string ⟨#[]⟩, .int .i64 0, .int .i64 0, .slice none 0 0, .int .i64 0, .slice none 0 0, .slice none 0 0], .slice none 0 0, .slice none 0 0], []⟩ 8 (by kernel_rfl) (by kernel_rfl) (by kernel_rfl) (by kernel_rfl)) ?_
 intro W base args ds gs before hval0 hW _ hsz _
 have hval : ∀ (j : Nat) t v, Tryz.f4.params[j]? = some t → args[j]? = some v → Value.okWide prog W .any base t v := hval0
 have hW' := hW
 obtain ⟨p, q, hA0, hV, rfl, hfz, _⟩ := hW
 have hA : DataW.TrodAll enc prog W 0 (fun _ => true) true Tryz.f4.params.toList args.toList ds p := hA0
 have hsz : (DataW.weightsEach prog (Tryz.f4.params.toList ++ []) (ds ++ gs)).all (· ≤ reachBytes) = true := hsz
 rw [params4] at hA hval hsz
 obtain ⟨v0, v1, v2, v3, d0, d1, d2, d3, p0, p1, p2, p3, rfl, rfl, rfl, h0, h1, h2, h3⟩ := trodAll_four hA
 obtain ⟨rfl, rfl⟩ := trodVars_none hV
 obtain ⟨n0, aC, esC, cC, e0, hH0, k0⟩ := slice_in plain_TT (by decide) underlying22 (hval 0 22 v0 rfl rfl) h0 (weights_at hsz (j := 0) rfl rfl)
 obtain ⟨n1, xs, e1, hH1, hI1, k1⟩ := struct_in plain_TT (by decide) (by rw [ez28]; decide) (hval 1 28 v1 rfl rfl) h1 (weights_at hsz (j := 1) rfl rfl)
 obtain ⟨n2, aI, esI, cI, e2, hH2, k2⟩ := slice_in plain_TT (by decide) underlying46 (hval 2 46 v2 rfl rfl) h2 (weights_at hsz (j := 2) rfl rfl)
 obtain ⟨n3, aJ, esJ, cJ, e3, hH3, k3⟩ := slice_in plain_TT (by decide) underlying46 (hval 3 46 v3 rfl rfl) h3 (weights_at hsz (j := 3) rfl rfl)
 rw [ez3] at e2 hH2 k2 e3 hH3 k3
 rw [ez62] at e0 hH0 k0
 have c28 : prog.cellsOf 28 = 9 := by kernel_rfl
 rw [c28] at e1 hI1
 obtain ⟨a', es', c', hsl, g, ctx⟩ := pms_of_shp k0
 cases hsl
 obtain ⟨t, ht, _⟩ := tm_of_shp _ _ k1
 obtain ⟨ns, rfl⟩ := ints_of hH2 k2
 obtain ⟨ms, rfl⟩ := ints_of hH3 k3
 have hc := (law_ResidualCall ctx ht ns ms aC aI aJ cC cI cJ W.heap.size).h (fun _ => False) W rfl (fun _ h => h.elim) (fun p hp => by
  simp only [List.mem_cons, List.not_mem_nil, or_false] at hp
  rcases hp with rfl | rfl | rfl | rfl
  ·exact ⟨⟨hH0, fun _ _ => id⟩, rfl⟩
  ·exact ⟨⟨⟨hH1, fun _ _ => id⟩, hI1⟩, rfl⟩
  ·exact ⟨⟨hH2, fun _ _ => id⟩, rfl⟩
  ·exact ⟨⟨hH3, fun _ _ => id⟩, rfl⟩)
 have hargs : ([PV.sv aC 4 esC cC, .dg 9 (.ag xs), .sv aI 0 (intsD ns) cI, .sv aJ 0 (intsD ms) cJ].map (PV.val [])).toArray = #[v0, v1, v2, v3] := by
  simp only [List.map_cons, List.map_nil, e0, e1, e2, e3]
 rw [hargs] at hc
 refine hc.mono fun e W' hf => ?_
 exact post_true kids full (by rw [params4]; decide) rfl (by kernel_rfl) underlying4 rfl hW' (ret1_of hf)

theorem fnExactResidualCall_holds : Rows.FnExactResidualCallSaid :=
 OpenClaim.holds_of_wide 4 Tryz.f4 rfl rfl rfl rfl rfl rfl rfl ⟨rfl, rfl, rfl, rfl, rfl⟩ rfl rfl rfl rfl rfl (by kernel_rfl) func4 (by kernel_rfl)
  (of_decide_eq_true (by kernel_rfl)) (by unfold Func.isWrapper; first | (rw [if_pos (by decide +kernel)]; kernel_rfl) | (rw [if_neg (by decide +kernel)]; exact ⟨rfl, rfl⟩))
  (fun os started H enc _ => fnExactResidualCall_lifted os started H enc)

#print axioms fnExactResidualCall_holds
end Go.Proofs.YtfkmegifjiiclaaGreat
