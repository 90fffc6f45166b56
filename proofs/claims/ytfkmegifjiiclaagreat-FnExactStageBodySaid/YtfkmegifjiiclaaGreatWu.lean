/- Terms that are held. -/
import Derived.Test.YtfkmegifjiiclaaGreatWh
import Derived.Test.YtfkmegifjiiclaaGreatWl
import Derived.Test.YtfkmegifjiiclaaGreatWm
import Derived.Test.YtfkmegifjiiclaaGreatWc
import Derived.Test.YtfkmegifjiiclaaGreatWt
import Derived.Test.YtfkmegifjiiclaaGreatWa
import Derived.Test.YtfkmegifjiiclaaGreatWn
set_option linter.unusedVariables false
set_option linter.unusedSimpArgs false
namespace Go.Proofs.YtfkmegifjiiclaaGreat
open Go Go.Proofs Go.Proofs.Tryz Go.IntWalk

def Tm.as : Tm → List Tm
 | .mk _ _ _ _ _ _ l => l
theorem c_heldMk (l : List Ty) (k : Int) (es : List D) (a : Option Addr) (c : Nat) (hes : All2 Ty.Is (mkTys l k).1 es) (hlen : es.length ≤ 4611686018427387904) (h0 : 0 ≤ k) (h1 : k + tysCnt l ≤ 1152921504606846976) : RetI 83 [.sv a 2 es c, .int .i64 k] (mkTys l k).2 := by
 have h := c_heldTypeS (.mk 0 (mkTys l k).1) es a c hes hlen k h0 (by simp only [Ty.as, mkTys_cnt]; exact h1)
 simp only [Ty.as, hd_mks l k h0] at h
 exact h
theorem c_heldTermSX : ∀ (t : Tm) (k : Int) (es : List D) (a : Option Addr) (c : Nat), All2 Tm.Is (mkTms t.as k).1 es → es.length ≤ 4611686018427387904 → 0 ≤ k → k + 4 * tmsCnt t.as ≤ 288230376151711744 → RetI 35 [.sv a 9 es c, .int .i64 k] (mkTms t.as k).2 := by
 refine Tm.ind fun kk nm ot n ty re l ih k es a c hes hlen h0 h1 N Q hQ => ?_
 simp only [Tm.as] at hes hQ h1
 have hl := hes.len
 rw [mkTms_len] at hl
 refine w_laws_heldTermS N a es c k Q fun _ => ?_
 have key : ∀ (xs : List Tm) (i : Nat) (m : Int) (N' : Nat), N ≤ N' → (∀ x ∈ xs, x ∈ l) → i + xs.length = es.length → (mkTms l k).1.drop i = (mkTms xs m).1 → (mkTms xs m).2 = (mkTms l k).2 → 0 ≤ m → m + 4 * tmsCnt xs ≤ 288230376151711744 → L_laws_heldTermS_2 Q N a es c m i N' := by
  intro xs
  induction xs with
  | nil =>
    intro i m N' hN' _ hi hd hk hm _
    refine l_laws_heldTermS_2 _ _ _ _ _ _ _ _ (Br.dec (fun h => ?_) fun _ N1 hN1 => ?_)
    ·simp at hi; omega
    ·simp only [mkTms] at hk; exact Qi (hQ _ (by omega)) hk.symm
  | cons x ts ihx =>
    intro i m N' hN' hmem hi hd hk hm hb
    cases x with
    | mk kx nx ox n_x tyx rex lx =>
    obtain ⟨tk, tl⟩ := tyx
    obtain ⟨rk, rl⟩ := rex
    have hx := ih (.mk kx nx ox n_x (.mk tk tl) (.mk rk rl) lx) (hmem _ (by simp))
    simp only [Tm.as] at hx
    simp only [mkTms, Ty.as] at hd hk
    simp only [tmsCnt, Tm.cnt, Ty.cnt] at hb
    simp only [List.length_cons] at hi
    have hkT := mkTys_k tl (m + 1 + 1 + 1 + 1 + 1)
    generalize hT : mkTys tl (m + 1 + 1 + 1 + 1 + 1) = mT at hd hk hkT
    have hkR := mkTys_k rl (mT.2 + 1)
    generalize hR : mkTys rl (mT.2 + 1) = mR at hd hk hkR
    have hkA := mkTms_k lx mR.2
    generalize hA : mkTms lx mR.2 = mA at hd hk hkA
    have hg : (mkTms l k).1[i]? = some (Tm.mk m (mText (m + 1)) (mText (m + 1 + 1)) (m + 1 + 1 + 1) (.mk (m + 1 + 1 + 1 + 1) mT.1) (.mk mT.2 mR.1) mA.1) := by
     have := congrArg (fun u => u[0]?) hd
     simpa using this
    have hr := hes.get hg
    obtain ⟨t0, t1, r0, r1, a2, es2, c2, hd2, hh, hlen2, hes2⟩ := Tm.is_mk.1 hr
    obtain ⟨kT, lT, aT, esT, cT, eT, rfl, rfl, hlenT, hesT⟩ := Ty.is_two hh.ty
    obtain ⟨kR, lR, aR, esR, cR, eR, rfl, rfl, hlenR, hesR⟩ := Ty.is_two hh.re
    injection eT with eT1 eT2
    injection eR with eR1 eR2
    subst eT1; subst eT2; subst eR1; subst eR2
    have hlt : (i : Int) < (es.length : Int) := by omega
    have B : (0 : Int) ≤ (i : Int) ∧ (i : Int) < (es.length : Int) := ⟨by omega, hlt⟩
    refine l_laws_heldTermS_2 _ _ _ _ _ _ _ _ ?_
    rw [i64_in (m + 1) (by omega), i64_in (m + 1 + 1) (by omega), i64_in (m + 1 + 1 + 1) (by omega), i64_in (m + 1 + 1 + 1 + 1) (by omega), i64_in (m + 1 + 1 + 1 + 1 + 1) (by omega), i64_in ((i : Int) + 1) (by omega)]
    rw [Int.toNat_natCast, hd2]
    refine Br.dec (fun _ => ?_) fun h => absurd hlt h
    refine ⟨B, _, rfl, Br.bne (fun h => absurd rfl h) fun _ => ⟨B, _, rfl, fun N2 hN2 => ?_⟩⟩
    refine c_markTextD (m + 1) (by omega) (by omega) N2 _ fun N3 hN3 _ => Br.nstr (fun h => absurd rfl h) fun _ => ⟨B, _, rfl, fun N5 hN5 => ?_⟩
    refine c_markTextD (m + 1 + 1) (by omega) (by omega) N5 _ fun N6 hN6 _ => Br.nstr (fun h => absurd rfl h) fun _ => ⟨B, _, rfl, Br.bne (fun h => absurd rfl h) fun _ => ⟨B, _, rfl, Br.bne (fun h => absurd rfl h) fun _ => ⟨B, _, _, _, rfl, fun N10 hN10 => ?_⟩⟩⟩
    have hcT := c_heldMk tl (m + 1 + 1 + 1 + 1 + 1) esT aT cT (by rw [hT]; exact tys_all2 hesT) hlenT (by omega) (by omega)
    rw [hT] at hcT
    refine hcT N10 _ fun N11 hN11 _ => Br.dec (fun h => by omega) fun _ => ⟨B, _, rfl, Br.bne (fun h => absurd rfl h) fun _ => ⟨B, _, _, _, rfl, fun N14 hN14 => ?_⟩⟩
    rw [i64_in (mT.2 + 1) (by omega)]
    have hcR := c_heldMk rl (mT.2 + 1) esR aR cR (by rw [hR]; exact tys_all2 hesR) hlenR (by omega) (by omega)
    rw [hR] at hcR
    refine hcR N14 _ fun N15 hN15 _ => Br.dec (fun h => by omega) fun _ => ⟨B, _, _, _, rfl, fun N17 hN17 => ?_⟩
    have hcA := hx mR.2 es2 a2 c2 (by rw [hA]; exact hes2) hlen2 (by omega) (by omega)
    rw [hA] at hcA
    refine hcA N17 _ fun N18 hN18 _ => Br.dec (fun h => by omega) fun _ => ?_
    refine ihx (i + 1) mA.2 N18 (by omega) (fun x hx => hmem x (by simp [hx])) (by omega) ?_ hk (by omega) (by omega)
    have := congrArg (List.drop 1) hd
    simpa [List.drop_drop, Nat.add_comm] using this
 exact key l 0 k N (Nat.le_refl _) (fun x h => h) (by omega) (by simp) rfl h0 h1
theorem c_heldTermX (t : Tm) (k : Int) (d : D) (hd : (t.mkd k).Is d) (h0 : 0 ≤ k) (h1 : k + 4 * t.cnt ≤ 288230376151711744) : RetI 19 [.dg 9 d, .int .i64 k] (t.mkk k) := fun N Q hQ => by
 obtain ⟨kk, nm, ot, n, ⟨tk, tl⟩, ⟨rk, rl⟩, l⟩ := t
 simp only [Tm.mkd, Tm.mkk, Ty.as, Ty.k] at hd hQ
 simp only [Tm.cnt, Ty.cnt] at h1
 have hkT := mkTys_k tl k
 generalize hT : mkTys tl k = mT at hd hQ hkT
 have hkR := mkTys_k rl mT.2
 generalize hR : mkTys rl mT.2 = mR at hd hQ hkR
 have hkA := mkTms_k l mR.2
 obtain ⟨t0, t1, r0, r1, a2, es2, c2, rfl, hh, hlen2, hes2⟩ := Tm.is_mk.1 hd
 obtain ⟨kT, lT, aT, esT, cT, eT, rfl, rfl, hlenT, hesT⟩ := Ty.is_two hh.ty
 obtain ⟨kR, lR, aR, esR, cR, eR, rfl, rfl, hlenR, hesR⟩ := Ty.is_two hh.re
 injection eT with eT1 eT2
 injection eR with eR1 eR2
 subst eT1; subst eT2; subst eR1; subst eR2
 have hcT : tysCnt mT.1 = tysCnt tl := by rw [← hT]; exact mkTys_cnt tl k
 have hcR : tysCnt mR.1 = tysCnt rl := by rw [← hR]; exact mkTys_cnt rl _
 have hmT : hdTys mT.1 k = mT.2 := by rw [← hT]; exact hd_mks tl k h0
 have hmR : hdTys mR.1 mT.2 = mR.2 := by rw [← hR]; exact hd_mks rl _ (by omega)
 refine w_laws_heldTerm N _ k Q fun _ N1 hN1 => ?_
 have h2 := c_heldType (kk := tk) (a := aT) (c := cT) hesT hlenT k h0 (by omega)
 rw [hmT] at h2
 refine h2 N1 _ fun N2 hN2 _ => Br.dec (fun h => by omega) fun _ N4 hN4 => ?_
 have h3 := c_heldType (kk := rk) (a := aR) (c := cR) hesR hlenR mT.2 (by omega) (by omega)
 rw [hmR] at h3
 refine h3 N4 _ fun N5 hN5 _ => Br.dec (fun h => by omega) fun _ => ⟨_, _, _, rfl, fun N7 hN7 => ?_⟩
 refine c_heldTermSX (.mk 0 (bytes []) (bytes []) 0 (.mk 0 []) (.mk 0 []) l) mR.2 es2 a2 c2 hes2 hlen2 (by omega) (by simp only [Tm.as]; omega) N7 _ fun N8 hN8 _ => Br.dec (fun h => by simp only [Tm.as] at h; omega) fun _ N10 hN10 => ?_
 exact hQ _ (by omega)
end Go.Proofs.YtfkmegifjiiclaaGreat

/- CodeFor: the reference, the program, and the law. -/
set_option linter.unusedVariables false
set_option linter.unusedSimpArgs false
namespace Go.Proofs.YtfkmegifjiiclaaGreat
open Go Go.Proofs Go.Proofs.Tryz Go.IntWalk

theorem pmCnt_le {m : Nat} : ∀ {g : List Pm}, (∀ x ∈ g, x.ty.cnt ≤ m) → pmCnt g ≤ g.length * m
 | [], _ => by simp [pmCnt]
 | x :: g, h => by
   have h1 := pmCnt_le (g := g) fun y hy => h y (by simp [hy])
   have h2 := h x (by simp)
   simp only [pmCnt, List.length_cons, Nat.add_mul, Nat.one_mul]
   omega
def codeFor (g : List Pm) (e : Tm) : Tm := if (bodyTy g e).isSome = true then e.code (envOf g) else Tm.nod 0 []
theorem codeFor_cnt (g : List Pm) (e : Tm) : (codeFor g e).cnt ≤ 3 * e.cnt + 3 := by
 unfold codeFor
 split
 ·have := code_cnt e (envOf g); omega
 ·simp only [nod_cnt, tmsCnt]; omega
theorem c_spec_CodeFor {g : List Pm} {es : List D} (h : Pms g es) (hg : g.length ≤ 1073741) {e : Tm} {d : D} (he : e.Is d) (hc : e.cnt ≤ 250000000) (a : Option Addr) (c : Nat) : Cop 11 9 [.sv a 4 es c, .dg 9 d] (codeFor g e).Is := fun N Q hQ => by
 refine w_spec_CodeFor N a es c d Q fun _ _ N1 hN1 => ?_
 refine c_spec_BodyType h (by omega) he (by omega) a c N1 _ fun x N2 hN2 _ _ _ => Br.not (fun hb N3 hN3 => ?_) fun hb N4 hN4 => ?_
 ·exact hQ _ _ (by omega) (by rw [codeFor, if_neg (by simp [hb])]; exact nod_is rfl (by simp)) (own_nod0 0)
 ·refine c_l16Env h (by omega) a c N4 _ fun a2 c2 N5 hN5 _ _ N6 hN6 => ?_
  obtain ⟨_, hv, hB⟩ := bodyTy_some hb
  refine c_l17Code e d he (vd_ok hv) hB (envOf g) a2 c2 (by rw [envOf_len]; omega) N6 _ fun d' N7 hN7 hd' ho _ _ N8 hN8 => ?_
  exact hQ _ _ (by omega) (by rw [codeFor, if_pos hb]; exact hd') (ho.mono (by omega) hN8)
theorem c_impl_CodeFor {g : List Pm} {es : List D} (h : Pms g es) (hg : g.length ≤ 1073741) (hc2 : ∀ x ∈ g, x.ty.cnt ≤ 1073741824) {e : Tm} {d : D} (he : e.Is d) (hc : e.cnt ≤ 250000000) (a : Option Addr) (c : Nat) : Cop 14 9 [.sv a 4 es c, .dg 9 d] (codeFor g e).Is := fun N Q hQ => by
 refine w_impl_CodeFor N a es c d Q fun _ _ N1 hN1 => ?_
 refine c_impl_BodyType h (by omega) hc2 he (by omega) a c N1 _ fun x N2 hN2 _ _ _ _ => Br.not (fun hb N3 hN3 => ?_) fun hb N4 hN4 => ?_
 ·exact hQ _ _ (by omega) (by rw [codeFor, if_neg (by simp [hb])]; exact nod_is rfl (by simp)) (own_nod0 0)
 ·refine c_times0 h (by omega) a c N4 _ fun a2 c2 N5 hN5 _ _ N6 hN6 => ?_
  obtain ⟨_, hv, hB⟩ := bodyTy_some hb
  refine c_code e d he (vd_ok hv) hB (plOf g) a2 c2 (by rw [plOf_len]; omega) N6 _ fun d' N7 hN7 hd' ho _ _ N8 hN8 => ?_
  exact hQ _ _ (by omega) (by rw [codeFor, if_pos hb, ← plOf_env]; exact hd') (ho.mono (by omega) hN8)
end Go.Proofs.YtfkmegifjiiclaaGreat

/- StageBody: the reference, the program, and the law. -/
set_option linter.unusedVariables false
set_option linter.unusedSimpArgs false
namespace Go.Proofs.YtfkmegifjiiclaaGreat
open Go Go.Proofs Go.Proofs.Tryz Go.IntWalk

/-- a body in two stages, or none -/
def stageOf (g : List Pm) (e : Tm) : Option Tm := if (bodyTy g e).isSome = true then some (funOf (nows g) (Tm.nod 10 [funOf (laters g) (Tm.nod 11 [codeFor g e])])) else none
theorem stageOf_cnt {g : List Pm} (hcg : ∀ x ∈ g, x.ty.cnt ≤ 2000000) (e : Tm) : ((stageOf g e).getD (Tm.nod 0 [])).cnt ≤ 3 * e.cnt + 30000000 := by
 unfold stageOf
 split
 ·rename_i hb
  obtain ⟨hp, _, _⟩ := bodyTy_some hb
  have h1 := pmW_nows hp hcg
  have h2 := pmW_laters hp hcg
  have h3 := codeFor_cnt g e
  simp only [Option.getD_some, funOf_cnt, nod_cnt, tmsCnt]
  omega
 ·simp only [Option.getD_none, nod_cnt, tmsCnt]; omega
theorem c_spec_StageBody {g : List Pm} {es : List D} (h : Pms g es) (hg : g.length ≤ 1073741) (hcg : ∀ x ∈ g, x.ty.cnt ≤ 2000000) {e : Tm} {d : D} (he : e.Is d) (hc : e.cnt ≤ 100000000) (a : Option Addr) (c : Nat) :
  CopB 27 [.sv a 4 es c, .dg 9 d] (stageOf g e) := fun N Q hQ => by
 have hc2 : ∀ x ∈ g, x.ty.cnt ≤ 1073741824 := fun x hx => by have := hcg x hx; omega
 have hnl := nows_len g
 have hll := laters_len g
 refine w_spec_StageBody N a es c d Q fun _ _ N1 hN1 => ?_
 refine c_spec_BodyType h (by omega) he (by omega) a c N1 _ fun x N2 hN2 _ _ _ => Br.not (fun hb N3 hN3 => ?_) fun hb N4 hN4 => ?_
 ·rw [show stageOf g e = none from by unfold stageOf; rw [if_neg (by simp [hb])]] at hQ
  exact hQ _ _ (by omega) (nod_is rfl (by simp)) (own_nod0 0)
 ·obtain ⟨hp, _, _⟩ := bodyTy_some hb
  have h1 := pmW_nows hp hcg
  have h2 := pmW_laters hp hcg
  have h3 := codeFor_cnt g e
  rw [show stageOf g e = some (funOf (nows g) (Tm.nod 10 [funOf (laters g) (Tm.nod 11 [codeFor g e])])) from by unfold stageOf; rw [if_pos hb]] at hQ
  refine c_spec_SplitParams h (by omega) hc2 a c N4 _ fun a3 es3 c3 a4 es4 c4 N5 hN5 p3 p4 _ _ _ N6 hN6 => ?_
  refine c_spec_CodeFor h hg he (by omega) a c N6 _ fun d1 N7 hN7 hd1 o1 _ _ N8 hN8 => ?_
  refine c_l17Splice _ d1 hd1 (by omega) N8 _ fun d2 N9 hN9 hd2 o2 _ _ N10 hN10 => ?_
  refine c_spec_FunctionOf p4 (by omega) (by omega) hd2 (by simp only [nod_cnt, tmsCnt]; omega) a4 c4 N10 _ fun d3 N11 hN11 hd3 o3 _ _ N12 hN12 => ?_
  refine c_l17Quote _ d3 hd3 (by simp only [funOf_cnt, nod_cnt, tmsCnt]; omega) N12 _ fun d4 N13 hN13 hd4 o4 _ _ N14 hN14 => ?_
  refine c_spec_FunctionOf p3 (by omega) (by omega) hd4 (by simp only [funOf_cnt, nod_cnt, tmsCnt]; omega) a3 c3 N14 _ fun d5 N15 hN15 hd5 o5 _ _ N16 hN16 => ?_
  exact hQ _ _ (by omega) hd5 (o5.mono (by omega) (by omega))
theorem c_impl_StageBody {g : List Pm} {es : List D} (h : Pms g es) (hg : g.length ≤ 1073741) (hcg : ∀ x ∈ g, x.ty.cnt ≤ 2000000) {e : Tm} {d : D} (he : e.Is d) (hc : e.cnt ≤ 100000000) (a : Option Addr) (c : Nat) :
  CopB 28 [.sv a 4 es c, .dg 9 d] (stageOf g e) := fun N Q hQ => by
 have hc2 : ∀ x ∈ g, x.ty.cnt ≤ 1073741824 := fun x hx => by have := hcg x hx; omega
 have hnl := nows_len g
 have hll := laters_len g
 refine w_impl_StageBody N a es c d Q fun _ _ N1 hN1 => ?_
 refine c_impl_BodyType h (by omega) hc2 he (by omega) a c N1 _ fun x N2 hN2 _ _ _ _ => Br.not (fun hb N3 hN3 => ?_) fun hb N4 hN4 => ?_
 ·rw [show stageOf g e = none from by unfold stageOf; rw [if_neg (by simp [hb])]] at hQ
  exact hQ _ _ (by omega) (nod_is rfl (by simp)) (own_nod0 0)
 ·obtain ⟨hp, _, _⟩ := bodyTy_some hb
  have h1 := pmW_nows hp hcg
  have h2 := pmW_laters hp hcg
  have h3 := codeFor_cnt g e
  rw [show stageOf g e = some (funOf (nows g) (Tm.nod 10 [funOf (laters g) (Tm.nod 11 [codeFor g e])])) from by unfold stageOf; rw [if_pos hb]] at hQ
  refine c_impl_SplitParams h (by omega) hc2 a c N4 _ fun a3 es3 c3 a4 es4 c4 N5 hN5 p3 p4 _ _ _ N6 hN6 => ?_
  refine c_impl_CodeFor h hg hc2 he (by omega) a c N6 _ fun d1 N7 hN7 hd1 o1 _ _ N8 hN8 => ?_
  refine c_spliced _ d1 hd1 N6 N8 (by omega) (o1.mono (Nat.le_refl _) (by omega)) _ fun d2 N9 hN9 hd2 o2 _ _ N10 hN10 => ?_
  refine c_impl_FunctionOf p4 (by omega) (by omega) hd2 (by simp only [nod_cnt, tmsCnt]; omega) a4 c4 N10 _ fun d3 N11 hN11 hd3 o3 _ _ N12 hN12 => ?_
  refine c_quoted _ d3 hd3 N10 N12 (by omega) (o3.mono (Nat.le_refl _) (by omega)) _ fun d4 N13 hN13 hd4 o4 _ _ N14 hN14 => ?_
  refine c_impl_FunctionOf p3 (by omega) (by omega) hd4 (by simp only [funOf_cnt, nod_cnt, tmsCnt]; omega) a3 c3 N14 _ fun d5 N15 hN15 hd5 o5 _ _ N16 hN16 => ?_
  exact hQ _ _ (by omega) hd5 (o5.mono (by omega) (by omega))
/-- the law FnExactStageBody: for all data it answers true -/
theorem law_StageBody {g : List Pm} {es : List D} {t : Tm} {d : D} (ctx : Pms g es) (he : t.Is d) (a : Option Addr) (c : Nat) (N : Nat) :
  ACalls prog 6 [.bool] [.sv a 4 es c, .dg 9 d] N (fun r _ => r = true) := by
 refine w_laws_FnExactStageBody N a es c d _ fun hB0 hB1 N1 hN1 => ?_
 refine c_szParamS ctx a c 1048576 (by omega) (by omega) N1 _ fun r N2 hN2 hr _ => Br.dec (fun _ N3 _ => rfl) fun hneg N4 hN4 => ?_
 obtain ⟨hr0, hr1, hgl, hgc⟩ := hr.resolve_left (by omega)
 refine c_szTerm t d he r (by omega) (by omega) N4 _ fun r2 N5 hN5 hr2 _ => Br.dec (fun _ N6 _ => rfl) fun hneg2 N7 hN7 => ?_
 obtain ⟨hq0, hq1, hcn⟩ := hr2.resolve_left (by omega)
 have hcn : t.cnt ≤ 3145731 := by omega
 have hgl : g.length ≤ 1048576 := by omega
 have hgc : ∀ x ∈ g, x.ty.cnt ≤ 1048577 := fun x hx => by have := hgc x hx; omega
 have hgc2 : ∀ x ∈ g, x.ty.cnt ≤ 1073741824 := fun x hx => by have := hgc x hx; omega
 have htg : pmCnt g ≤ 1048576 * 1048577 := Nat.le_trans (pmCnt_le hgc) (Nat.mul_le_mul_right _ hgl)
 have hgl2 : g.length ≤ 1073741824 := by omega
 have hgl3 : g.length ≤ 1073741 := by omega
 have hcn2 : t.cnt ≤ 1073741824 := by omega
 have hcn4 : t.cnt ≤ 100000000 := by omega
 have hgc3 : ∀ x ∈ g, x.ty.cnt ≤ 2000000 := fun x hx => by have := hgc x hx; omega
 clear hr hr2
 refine c_toParamS ctx hgl2 hgc2 a c N7 _ fun a1 es1 c1 N8 hN8 ctx1 own1 _ _ N9 hN9 => ?_
 refine c_toTerm t d he hcn2 N9 _ fun d1 N10 hN10 he1 own2 _ _ N11 hN11 => ?_
 have hoc := stageOf_cnt hgc3 t
 have hSpec := c_spec_StageBody ctx1 hgl3 hgc3 he1 hcn4 a1 c1
 have hImpl := fun (es2 : List D) (d2 : D) (ctx2 : Pms g es2) (he2 : t.Is d2) a2 c2 => c_impl_StageBody ctx2 hgl3 hgc3 he2 hcn4 a2 c2
 generalize stageOf g t = o at hSpec hImpl hoc
 refine hSpec N11 _ fun w0 N12 hN12 hw0 _ _ hBw N13 hN13 => ?_
 refine c_toParamS ctx hgl2 hgc2 a c N13 _ fun a2 es2 c2 N14 hN14 ctx2 own3 _ _ N15 hN15 => ?_
 refine c_toTerm t d he hcn2 N15 _ fun d2 N16 hN16 he2 own4 _ _ N17 hN17 => ?_
 refine hImpl es2 d2 ctx2 he2 a2 c2 N17 _ fun g0 N18 hN18 hg0 own5 _ _ N19 hN19 => ?_
 refine c_eqTerm _ g0 w0 hg0 hw0 N19 _ fun N20 hN20 _ => Br.of (fun h => by simp at h) fun _ => Br.of (fun h => by simp at h) fun _ N23 hN23 => ?_
 refine c_toParamS ctx hgl2 hgc2 a c N23 _ fun a3 es3 c3 N24 hN24 ctx3 _ _ _ N25 hN25 => ?_
 refine c_eqParamS ctx2 ctx3 a2 a3 c2 c3 N25 _ fun N26 hN26 _ => Br.of (fun h => by simp at h) fun _ N28 hN28 => ?_
 refine c_toTerm t d he hcn2 N28 _ fun d4 N29 hN29 he4 _ _ _ N30 hN30 => ?_
 refine c_eqTerm t d2 d4 he2 he4 N30 _ fun N31 hN31 _ => Br.of (fun h => by simp at h) fun _ => ?_
 have B0 : ∀ M, N ≤ M → Bel M (.sl a 4 es c) := fun M h => hB0.mono h
 have B1 : ∀ M, N ≤ M → Bel M d := fun M h => hB1.mono h
 have d53 := apart_hi own3 own5 (by omega)
 have d54 := apart_hi own4 own5 (by omega)
 have d34 := apart_hi own3 own4 (by omega)
 refine ⟨own3.tree, own3.low (by omega), ⟨fun x hx => ?_⟩, fun N33 hN33 => ?_⟩
 ·simp only [List.mem_cons, List.not_mem_nil, or_false] at hx
  rcases hx with rfl | rfl | rfl | rfl | rfl
  ·exact apart_lo own3 (B0 _ (by omega))
  ·exact apart_lo own3 (B1 _ (by omega))
  ·exact apart_lo own3 (hBw.mono (by omega))
  ·exact d34
  ·exact d53
 refine c_markParamS ctx2 a2 c2 own3.tree 1 (by omega) (by omega) N33 _ fun es5 k5 N34 hN34 hf5 hl5 hk5 hk5' _ => ?_
 refine ⟨own4.tree, own4.low (by omega), rfl, ⟨fun x hx => ?_⟩, fun N35 hN35 => ?_⟩
 ·simp only [List.mem_cons, List.not_mem_nil, or_false] at hx
  rcases hx with rfl | rfl | rfl | rfl
  ·exact apart_lo own4 (B0 _ (by omega))
  ·exact apart_lo own4 (B1 _ (by omega))
  ·exact apart_lo own4 (hBw.mono (by omega))
  ·exact d54
 refine c_markTerm he2 own4.tree k5 (by omega) (by omega) N35 _ fun d6 k6 N36 hN36 hf6 hk6 hk6' _ => Br.dec (fun h => by omega) fun _ N38 hN38 => ?_
 refine c_eqTerm _ g0 w0 hg0 hw0 N38 _ fun N39 hN39 _ => Br.of (fun h => by simp at h) fun _ => Br.of (fun h => by simp at h) fun _ => ?_
 refine ⟨own5.tree, own5.low (by omega), rfl, ⟨fun x hx => ?_⟩, fun N42 hN42 => ?_⟩
 ·simp only [List.mem_cons, List.not_mem_nil, or_false] at hx
  rcases hx with rfl | rfl | rfl | rfl
  ·exact apart_lo own5 (B0 _ (by omega))
  ·exact apart_lo own5 (B1 _ (by omega))
  ·exact apart_lo own5 (hBw.mono (by omega))
  ·rw [hf6]; exact fun b hb hc => d54 b hc hb
 refine c_markTermX hg0 own5.tree 1 (by omega) (by omega) N42 _ fun g1 N43 hN43 hg1 hfg _ N44 hN44 => ?_
 have hkk := (o.getD (Tm.nod 0 [])).mkk_k 1
 have hheld := c_heldTermX _ 1 g1 hg1 (by omega) (by omega)
 refine hheld N44 _ fun N45 hN45 _ => Br.dec (fun h => by omega) fun _ => Br.bne (fun h => absurd rfl h) fun _ N48 hN48 => ?_
 refine c_toParamS ctx hgl2 hgc2 a c N48 _ fun a5 es5 c5 N49 hN49 ctx5 _ _ _ N50 hN50 => ?_
 refine c_toTerm t d he hcn2 N50 _ fun d7 N51 hN51 he7 _ _ _ N52 hN52 => ?_
 refine hImpl es5 d7 ctx5 he7 a5 c5 N52 _ fun g2 N53 hN53 hg2 _ _ _ N54 hN54 => ?_
 refine c_eqTerm _ g2 w0 hg2 hw0 N54 _ fun N55 hN55 _ => Br.of (fun h => by simp at h) fun _ => Br.of (fun h => by simp at h) fun _ N58 hN58 => ?_
 exact hheld N58 _ fun N59 hN59 _ => Br.dec (fun h => by omega) fun _ => Br.bne (fun h => absurd rfl h) fun _ N62 hN62 => rfl
end Go.Proofs.YtfkmegifjiiclaaGreat

/- What was read is a list of parameters. -/
set_option linter.unusedVariables false
set_option maxRecDepth 100000
namespace Go.Proofs.YtfkmegifjiiclaaGreat
open Go Go.Proofs Go.Proofs.Tryz

theorem ez62 : ezOf prog 62 = 4 := by kernel_rfl
theorem pms_of_shp {n : Nat} {xs : List D} (h : Shp prog n 22 xs) : ∃ a es c, xs = [.sl a 4 es c] ∧ ∃ g, Pms g es := by
 obtain ⟨m, a, es, c, rfl, rfl, hl, hx⟩ := shpSlice underlying22 h
 rw [ez62]
 refine ⟨a, es, c, rfl, ?_⟩
 obtain ⟨g, hg⟩ := all2_choose (R := Pm.Is) (es := es) fun x hxm => by
  have h := hx x hxm
  ·obtain ⟨m, rfl, h⟩ := shpStruct underlying62 h
   obtain ⟨a1, b1, hc, h1, a2, b2, rfl, h2, a3, b3, rfl, h3, rfl⟩ := h
   obtain ⟨nm, rfl, hnm⟩ := shpStr underlying9 h1
   obtain ⟨t0, t1, rfl, ty, hty⟩ := ty_of_shp _ _ h2
   obtain ⟨dy, rfl⟩ := shpBool underlying4 h3
   refine ⟨⟨nm, ty, dy⟩, t0, t1, ?_, hnm, hty⟩
   rw [ag_of (x := x) (n := 4) (by rw [hc]; rfl) (by decide), hc]; rfl
 exact ⟨g, hl, hg⟩
end Go.Proofs.YtfkmegifjiiclaaGreat

/- FnExactStageBody holds as it is stated: for every input that the statement's row admits, the call returns true and each argument reads afterwards as before. No condition of our own. -/
namespace Go.Proofs.YtfkmegifjiiclaaGreat
open Go Go.Proofs Go.Proofs.Tryz Go.ChangeShapes Go.WideShapes Go.ChangeAt Go.RowKit

set_option maxHeartbeats 1600000 in
set_option maxRecDepth 100000 in
theorem fnExactStageBody_lifted (os : Os) (started : os.Started) (H : Type) (enc : TypeId × Value → H) :
  ReturnsInHanded {} checked os 6 .any (Rows.fnExactStageBodySpec.pre6 enc prog Tryz.f6 Rows.fnExactStageBodyRow.domain false) (Rows.fnExactStageBodySpec.post enc prog Tryz.f6 false true false false) := by
 refine returnsInHanded_of_change_sized (C := checked) ownKnob_none started (by kernel_rfl) func6
  (ChangeSpec.witness6 (enc := enc) (C := checked) false ⟨#[], #[.slice none 0 0, .agg #[.int .i64 0, .string ⟨#[]⟩, .string ⟨#[]⟩, .int .i64 0, .int .i64 0, .slice none 0 0, .int .i64 0, .slice none 0 0, .slice none 0 0]], []⟩ 8 (by kernel_rfl) (by kernel_rfl) (by kernel_rfl) (by kernel_rfl)) ?_
 intro W base args ds gs before hval0 hW _ hsz _
 have hval : ∀ (j : Nat) t v, Tryz.f6.params[j]? = some t → args[j]? = some v → Value.okWide prog W .any base t v := hval0
 have hW' := hW
 obtain ⟨p, q, hA0, hV, rfl, hfz, _⟩ := hW
 have hA : DataW.TrodAll enc prog W 0 (fun _ => true) true Tryz.f6.params.toList args.toList ds p := hA0
 have hsz : (DataW.weightsEach prog (Tryz.f6.params.toList ++ []) (ds ++ gs)).all (· ≤ reachBytes) = true := hsz
 rw [params6] at hA hval hsz
 obtain ⟨v0, v1, d0, d1, p0, p1, rfl, rfl, rfl, h0, h1⟩ := trodAll_two hA
 obtain ⟨rfl, rfl⟩ := trodVars_none hV
 obtain ⟨n0, aC, esC, cC, e0, hH0, k0⟩ := slice_in plain_TT (by decide) underlying22 (hval 0 22 v0 rfl rfl) h0 (weights_at hsz (j := 0) rfl rfl)
 obtain ⟨n1, xs, e1, hH1, hI1, k1⟩ := struct_in plain_TT (by decide) (by rw [ez28]; decide) (hval 1 28 v1 rfl rfl) h1 (weights_at hsz (j := 1) rfl rfl)
 rw [ez62] at e0 hH0 k0
 have c28 : prog.cellsOf 28 = 9 := by kernel_rfl
 rw [c28] at e1 hI1
 obtain ⟨a', es', c', hsl, g, ctx⟩ := pms_of_shp k0
 cases hsl
 obtain ⟨t, ht, _⟩ := tm_of_shp _ _ k1
 have hc := (law_StageBody ctx ht aC cC W.heap.size).h (fun _ => False) W rfl (fun _ h => h.elim) (fun p hp => by
  simp only [List.mem_cons, List.not_mem_nil, or_false] at hp
  rcases hp with rfl | rfl
  ·exact ⟨⟨hH0, fun _ _ => id⟩, rfl⟩
  ·exact ⟨⟨⟨hH1, fun _ _ => id⟩, hI1⟩, rfl⟩)
 have hargs : ([PV.sv aC 4 esC cC, .dg 9 (.ag xs)].map (PV.val [])).toArray = #[v0, v1] := by
  simp only [List.map_cons, List.map_nil, e0, e1]
 rw [hargs] at hc
 refine hc.mono fun e W' hf => ?_
 exact post_true kids full (by rw [params6]; decide) rfl (by kernel_rfl) underlying4 rfl hW' (ret1_of hf)

theorem fnExactStageBody_holds : Rows.FnExactStageBodySaid :=
 OpenClaim.holds_of_wide 6 Tryz.f6 rfl rfl rfl rfl rfl rfl rfl ⟨rfl, rfl, rfl, rfl, rfl⟩ rfl rfl rfl rfl rfl (by kernel_rfl) func6 (by kernel_rfl)
  (of_decide_eq_true (by kernel_rfl)) (by unfold Func.isWrapper; first | (rw [if_pos (by decide +kernel)]; kernel_rfl) | (rw [if_neg (by decide +kernel)]; exact ⟨rfl, rfl⟩))
  (fun os started H enc _ => fnExactStageBody_lifted os started H enc)

#print axioms fnExactStageBody_holds
end Go.Proofs.YtfkmegifjiiclaaGreat
