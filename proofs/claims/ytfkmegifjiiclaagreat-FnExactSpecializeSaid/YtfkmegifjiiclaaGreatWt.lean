/- Terms that are held. -/
import Derived.Test.YtfkmegifjiiclaaGreatWh
import Derived.Test.YtfkmegifjiiclaaGreatWl
import Derived.Test.YtfkmegifjiiclaaGreatWm
import Derived.Test.YtfkmegifjiiclaaGreatWs
import Derived.Test.YtfkmegifjiiclaaGreatWa
import Derived.Test.YtfkmegifjiiclaaGreatWn
import Derived.Test.YtfkmegifjiiclaaGreatWe
set_option linter.unusedVariables false
set_option linter.unusedSimpArgs false
namespace Go.Proofs.YtfkmegifjiiclaaGreat
open Go Go.Proofs Go.Proofs.Tryz Go.IntWalk

def Tm.as : Tm → List Tm
 | .mk _ _ _ _ _ _ l => l
theorem c_heldMk (l : List Ty) (k : Int) (es : List D) (a : Option Addr) (c : Nat) (hes : All2 Ty.Is (mkTys l k).1 es) (hlen : es.length ≤ 4611686018427387904) (h0 : 0 ≤ k) (h1 : k + tysCnt l ≤ 1152921504606846976) : RetI 83 [.sv a 2 es c, .int .i64 k] (mkTys l k).2 := by
 have h := c_heldTypeS (.mk 0 (mkTys l k).1) es a c hes hlen k h0 (by simp only [Ty.as, mkTys_cnt]; exact h1)
 simp only [Ty.as, hd_mks l k h0] at h
 exact h
theorem c_heldTermSX : ∀ (t : Tm) (k : Int) (es : List D) (a : Option Addr) (c : Nat), All2 Tm.Is (mkTms t.as k).1 es → es.length ≤ 4611686018427387904 → 0 ≤ k → k + 4 * tmsCnt t.as ≤ 288230376151711744 → RetI 35 [.sv a 9 es c, .int .i64 k] (mkTms t.as k).2 := by
 refine Tm.ind fun kk nm ot n ty re l ih k es a c hes hlen h0 h1 N Q hQ => ?_
 simp only [Tm.as] at hes hQ h1
 have hl := hes.len
 rw [mkTms_len] at hl
 refine w_laws_heldTermS N a es c k Q fun _ => ?_
 have key : ∀ (xs : List Tm) (i : Nat) (m : Int) (N' : Nat), N ≤ N' → (∀ x ∈ xs, x ∈ l) → i + xs.length = es.length → (mkTms l k).1.drop i = (mkTms xs m).1 → (mkTms xs m).2 = (mkTms l k).2 → 0 ≤ m → m + 4 * tmsCnt xs ≤ 288230376151711744 → L_laws_heldTermS_2 Q N a es c m i N' := by
  intro xs
  induction xs with
  | nil =>
    intro i m N' hN' _ hi hd hk hm _
    refine l_laws_heldTermS_2 _ _ _ _ _ _ _ _ (Br.dec (fun h => ?_) fun _ N1 hN1 => ?_)
    ·simp at hi; omega
    ·simp only [mkTms] at hk; exact Qi (hQ _ (by omega)) hk.symm
  | cons x ts ihx =>
    intro i m N' hN' hmem hi hd hk hm hb
    cases x with
    | mk kx nx ox n_x tyx rex lx =>
    obtain ⟨tk, tl⟩ := tyx
    obtain ⟨rk, rl⟩ := rex
    have hx := ih (.mk kx nx ox n_x (.mk tk tl) (.mk rk rl) lx) (hmem _ (by simp))
    simp only [Tm.as] at hx
    simp only [mkTms, Ty.as] at hd hk
    simp only [tmsCnt, Tm.cnt, Ty.cnt] at hb
    simp only [List.length_cons] at hi
    have hkT := mkTys_k tl (m + 1 + 1 + 1 + 1 + 1)
    generalize hT : mkTys tl (m + 1 + 1 + 1 + 1 + 1) = mT at hd hk hkT
    have hkR := mkTys_k rl (mT.2 + 1)
    generalize hR : mkTys rl (mT.2 + 1) = mR at hd hk hkR
    have hkA := mkTms_k lx mR.2
    generalize hA : mkTms lx mR.2 = mA at hd hk hkA
    have hg : (mkTms l k).1[i]? = some (Tm.mk m (mText (m + 1)) (mText (m + 1 + 1)) (m + 1 + 1 + 1) (.mk (m + 1 + 1 + 1 + 1) mT.1) (.mk mT.2 mR.1) mA.1) := by
     have := congrArg (fun u => u[0]?) hd
     simpa using this
    have hr := hes.get hg
    obtain ⟨t0, t1, r0, r1, a2, es2, c2, hd2, hh, hlen2, hes2⟩ := Tm.is_mk.1 hr
    obtain ⟨kT, lT, aT, esT, cT, eT, rfl, rfl, hlenT, hesT⟩ := Ty.is_two hh.ty
    obtain ⟨kR, lR, aR, esR, cR, eR, rfl, rfl, hlenR, hesR⟩ := Ty.is_two hh.re
    injection eT with eT1 eT2
    injection eR with eR1 eR2
    subst eT1; subst eT2; subst eR1; subst eR2
    have hlt : (i : Int) < (es.length : Int) := by omega
    have B : (0 : Int) ≤ (i : Int) ∧ (i : Int) < (es.length : Int) := ⟨by omega, hlt⟩
    refine l_laws_heldTermS_2 _ _ _ _ _ _ _ _ ?_
    rw [i64_in (m + 1) (by omega), i64_in (m + 1 + 1) (by omega), i64_in (m + 1 + 1 + 1) (by omega), i64_in (m + 1 + 1 + 1 + 1) (by omega), i64_in (m + 1 + 1 + 1 + 1 + 1) (by omega), i64_in ((i : Int) + 1) (by omega)]
    rw [Int.toNat_natCast, hd2]
    refine Br.dec (fun _ => ?_) fun h => absurd hlt h
    refine ⟨B, _, rfl, Br.bne (fun h => absurd rfl h) fun _ => ⟨B, _, rfl, fun N2 hN2 => ?_⟩⟩
    refine c_markTextD (m + 1) (by omega) (by omega) N2 _ fun N3 hN3 _ => Br.nstr (fun h => absurd rfl h) fun _ => ⟨B, _, rfl, fun N5 hN5 => ?_⟩
    refine c_markTextD (m + 1 + 1) (by omega) (by omega) N5 _ fun N6 hN6 _ => Br.nstr (fun h => absurd rfl h) fun _ => ⟨B, _, rfl, Br.bne (fun h => absurd rfl h) fun _ => ⟨B, _, rfl, Br.bne (fun h => absurd rfl h) fun _ => ⟨B, _, _, _, rfl, fun N10 hN10 => ?_⟩⟩⟩
    have hcT := c_heldMk tl (m + 1 + 1 + 1 + 1 + 1) esT aT cT (by rw [hT]; exact tys_all2 hesT) hlenT (by omega) (by omega)
    rw [hT] at hcT
    refine hcT N10 _ fun N11 hN11 _ => Br.dec (fun h => by omega) fun _ => ⟨B, _, rfl, Br.bne (fun h => absurd rfl h) fun _ => ⟨B, _, _, _, rfl, fun N14 hN14 => ?_⟩⟩
    rw [i64_in (mT.2 + 1) (by omega)]
    have hcR := c_heldMk rl (mT.2 + 1) esR aR cR (by rw [hR]; exact tys_all2 hesR) hlenR (by omega) (by omega)
    rw [hR] at hcR
    refine hcR N14 _ fun N15 hN15 _ => Br.dec (fun h => by omega) fun _ => ⟨B, _, _, _, rfl, fun N17 hN17 => ?_⟩
    have hcA := hx mR.2 es2 a2 c2 (by rw [hA]; exact hes2) hlen2 (by omega) (by omega)
    rw [hA] at hcA
    refine hcA N17 _ fun N18 hN18 _ => Br.dec (fun h => by omega) fun _ => ?_
    refine ihx (i + 1) mA.2 N18 (by omega) (fun x hx => hmem x (by simp [hx])) (by omega) ?_ hk (by omega) (by omega)
    have := congrArg (List.drop 1) hd
    simpa [List.drop_drop, Nat.add_comm] using this
 exact key l 0 k N (Nat.le_refl _) (fun x h => h) (by omega) (by simp) rfl h0 h1
theorem c_heldTermX (t : Tm) (k : Int) (d : D) (hd : (t.mkd k).Is d) (h0 : 0 ≤ k) (h1 : k + 4 * t.cnt ≤ 288230376151711744) : RetI 19 [.dg 9 d, .int .i64 k] (t.mkk k) := fun N Q hQ => by
 obtain ⟨kk, nm, ot, n, ⟨tk, tl⟩, ⟨rk, rl⟩, l⟩ := t
 simp only [Tm.mkd, Tm.mkk, Ty.as, Ty.k] at hd hQ
 simp only [Tm.cnt, Ty.cnt] at h1
 have hkT := mkTys_k tl k
 generalize hT : mkTys tl k = mT at hd hQ hkT
 have hkR := mkTys_k rl mT.2
 generalize hR : mkTys rl mT.2 = mR at hd hQ hkR
 have hkA := mkTms_k l mR.2
 obtain ⟨t0, t1, r0, r1, a2, es2, c2, rfl, hh, hlen2, hes2⟩ := Tm.is_mk.1 hd
 obtain ⟨kT, lT, aT, esT, cT, eT, rfl, rfl, hlenT, hesT⟩ := Ty.is_two hh.ty
 obtain ⟨kR, lR, aR, esR, cR, eR, rfl, rfl, hlenR, hesR⟩ := Ty.is_two hh.re
 injection eT with eT1 eT2
 injection eR with eR1 eR2
 subst eT1; subst eT2; subst eR1; subst eR2
 have hcT : tysCnt mT.1 = tysCnt tl := by rw [← hT]; exact mkTys_cnt tl k
 have hcR : tysCnt mR.1 = tysCnt rl := by rw [← hR]; exact mkTys_cnt rl _
 have hmT : hdTys mT.1 k = mT.2 := by rw [← hT]; exact hd_mks tl k h0
 have hmR : hdTys mR.1 mT.2 = mR.2 := by rw [← hR]; exact hd_mks rl _ (by omega)
 refine w_laws_heldTerm N _ k Q fun _ N1 hN1 => ?_
 have h2 := c_heldType (kk := tk) (a := aT) (c := cT) hesT hlenT k h0 (by omega)
 rw [hmT] at h2
 refine h2 N1 _ fun N2 hN2 _ => Br.dec (fun h => by omega) fun _ N4 hN4 => ?_
 have h3 := c_heldType (kk := rk) (a := aR) (c := cR) hesR hlenR mT.2 (by omega) (by omega)
 rw [hmR] at h3
 refine h3 N4 _ fun N5 hN5 _ => Br.dec (fun h => by omega) fun _ => ⟨_, _, _, rfl, fun N7 hN7 => ?_⟩
 refine c_heldTermSX (.mk 0 (bytes []) (bytes []) 0 (.mk 0 []) (.mk 0 []) l) mR.2 es2 a2 c2 hes2 hlen2 (by omega) (by simp only [Tm.as]; omega) N7 _ fun N8 hN8 _ => Br.dec (fun h => by simp only [Tm.as] at h; omega) fun _ N10 hN10 => ?_
 exact hQ _ (by omega)
end Go.Proofs.YtfkmegifjiiclaaGreat

/- Specialize: numbers marked, and the law. -/
set_option linter.unusedVariables false
set_option linter.unusedSimpArgs false
namespace Go.Proofs.YtfkmegifjiiclaaGreat
open Go Go.Proofs Go.Proofs.Tryz Go.IntWalk

def mkI : Nat → Int → List Int
 | 0, _ => []
 | n + 1, k => k :: mkI n (k + 1)
theorem mkI_len : ∀ (n : Nat) (k : Int), (mkI n k).length = n
 | 0, _ => rfl
 | n + 1, k => by simp [mkI, mkI_len n]
theorem c_mkIGo : ∀ (l : List Int) (done : List Int), (done ++ l).length ≤ 4611686018427387904 →
  ∀ (T : List Nat) (b0 N m c t : Nat) (k : Int) (R : Int → D → Nat → Prop), 0 ≤ k → k + l.length ≤ 2305843009213693952 → ∀ (q N1 : Nat), N ≤ N1 → m = (done ++ l).length →
  (∀ N', N1 ≤ N' → R (k + l.length) (.ag (intsD (done ++ mkI l.length k))) N') → L_laws_markIntS_2_v1 T b0 R N m c k done.length t (intsD (done ++ l)) q N1
 | [], done, hlen, T, b0, N, m, c, t, k, R, hk, hK, q, N1, hN1, hm, hR => by
   rw [List.append_nil] at *
   refine l_laws_markIntS_2_v1 _ _ _ _ _ _ _ _ _ _ _ _ (Br.dec (fun hc => by omega) fun _ => ⟨rfl, fun N3 hN3 => ?_⟩)
   have := hR N3 (by omega)
   simpa [mkI] using this
 | s :: ts, done, hlen, T, b0, N, m, c, t, k, R, hk, hK, q, N1, hN1, hm, hR => by
   have hlt : (done.length : Int) < (m : Int) := by rw [hm]; simp; omega
   have hl2 : done.length < (intsD (done ++ s :: ts)).length := by simp [intsD]
   simp only [List.length_cons] at hK
   refine l_laws_markIntS_2_v1 _ _ _ _ _ _ _ _ _ _ _ _ (Br.dec (fun _ => ?_) fun hc => absurd hlt hc)
   rw [i64_in (k + 1) (by omega), i64_in ((done.length : Int) + 1) (by rw [hm] at hlt; simp at hlt hlen; omega)]
   simp only [Int.toNat_natCast, Nat.zero_add]
   refine ⟨⟨by omega, hlt, hl2⟩, hl2, ?_⟩
   have hset : (intsD (done ++ s :: ts)).set done.length (.lit (.int .i64 k)) = intsD ((done ++ [k]) ++ ts) := by simp [intsD]
   rw [hset]
   have := c_mkIGo ts (done ++ [k]) (by simpa using hlen) T b0 N m c t (k + 1) R (by omega) (by omega) q N1 (by omega) (by rw [hm]; simp) fun N' h => by
    have := hR N' (by omega)
    simp only [List.length_cons, mkI] at this
    rw [show (k + ((ts.length + 1 : Nat) : Int)) = k + 1 + ts.length by omega] at this
    simpa using this
   simpa using this
theorem c_markIntS (l : List Int) (hl : l.length ≤ 1152921504606846976) (a : Option Addr) (c : Nat) (ht : Tree (.sl a 0 (intsD l) c)) (k : Int) (hk : 0 ≤ k) (hk2 : k ≤ 1152921504606846976) (N : Nat) (R : D → Int → Nat → Prop)
  (hR : ∀ N', N ≤ N' → R (.sl a 0 (intsD (mkI l.length k)) c) (k + l.length) N') : MC prog 26 (.sl a 0 (intsD l) c) k N R := by
 by_cases hne : l = []
 ·subst hne
  refine mc_nil (w_laws_markIntS N a [] c k _ fun _ => l_laws_markIntS_2 _ _ _ _ _ _ _ _ (Br.of (fun hc => ?_) fun _ N2 hN2 => ?_))
  ·simp at hc
  ·simpa [mkI, intsD] using hR N2 hN2
 ·have hw : intsD l ≠ [] := by simpa [intsD] using hne
  cases a with
  | none => exact mc_none (by kernel_rfl) hw
  | some ad =>
    refine m_laws_markIntS N ad (intsD l) c k R (fun k' x N' => N ≤ N' ∧ x = .ag (intsD (mkI l.length k)) ∧ k' = k + l.length) ht hw (by rw [intsD_len]; unfold maxLen; omega) (fun t => ?_) ?_
    ·have := c_mkIGo l [] (by simp; omega) (D.sl (some ad) 0 (intsD l) c).foot ad.block N (intsD l).length c t k (fun k' x N' => N ≤ N' ∧ x = .ag (intsD (mkI l.length k)) ∧ k' = k + l.length) hk (by omega) (intsD l).length N (Nat.le_refl _) (by simp [intsD]) fun N' h => ⟨h, by simp, rfl⟩
     simpa using this
    ·rintro k' x N' ⟨hN', rfl, rfl⟩
     exact ⟨intsD (mkI l.length k), rfl, by simp [intsD_len, mkI_len], by simp [intsD_foot], hR N' hN'⟩
theorem pmCnt_le {m : Nat} : ∀ {g : List Pm}, (∀ x ∈ g, x.ty.cnt ≤ m) → pmCnt g ≤ g.length * m
 | [], _ => by simp [pmCnt]
 | x :: g, h => by
   have h1 := pmCnt_le (g := g) fun y hy => h y (by simp [hy])
   have h2 := h x (by simp)
   simp only [pmCnt, List.length_cons, Nat.add_mul, Nat.one_mul]
   omega
/-- the law FnExactSpecialize: for all data it answers true -/
theorem law_Specialize {g : List Pm} {es : List D} {t : Tm} {d : D} (ctx : Pms g es) (he : t.Is d) (ns : List Int) (a a2 : Option Addr) (c c2 : Nat) (N : Nat) :
  ACalls prog 5 [.bool] [.sv a 4 es c, .dg 9 d, .sv a2 0 (intsD ns) c2] N (fun r _ => r = true) := by
 have hnl := intsD_len ns
 refine w_laws_FnExactSpecialize N a es c d a2 _ c2 _ fun hB0 hB1 hB2 => Br.dec (fun _ N1 _ => rfl) fun hns N1 hN1 => ?_
 refine c_szParamS ctx a c 1048576 (by omega) (by omega) N1 _ fun r N2 hN2 hr _ => Br.dec (fun _ N3 _ => rfl) fun hneg N4 hN4 => ?_
 obtain ⟨hr0, hr1, hgl, hgc⟩ := hr.resolve_left (by omega)
 refine c_szTerm t d he r (by omega) (by omega) N4 _ fun r2 N5 hN5 hr2 _ => Br.dec (fun _ N6 _ => rfl) fun hneg2 N7 hN7 => ?_
 obtain ⟨hq0, hq1, hcn⟩ := hr2.resolve_left (by omega)
 have hcn : t.cnt ≤ 3145731 := by omega
 have hgl : g.length ≤ 1048576 := by omega
 have hgc : ∀ x ∈ g, x.ty.cnt ≤ 1048577 := fun x hx => by have := hgc x hx; omega
 have hgc2 : ∀ x ∈ g, x.ty.cnt ≤ 1073741824 := fun x hx => by have := hgc x hx; omega
 have htg : pmCnt g ≤ 1048576 * 1048577 := Nat.le_trans (pmCnt_le hgc) (Nat.mul_le_mul_right _ hgl)
 have hgl2 : g.length ≤ 1073741824 := by omega
 have hgl3 : g.length ≤ 1073741 := by omega
 have hcn2 : t.cnt ≤ 1073741824 := by omega
 have hcn4 : t.cnt ≤ 250000000 := by omega
 have hns2 : ns.length ≤ 1073741824 := by omega
 have hns3 : ns.length ≤ 1048576 := by omega
 clear hr hr2
 refine c_toParamS ctx hgl2 hgc2 a c N7 _ fun a1 es1 c1 N8 hN8 ctx1 own1 _ _ N9 hN9 => ?_
 refine c_toTerm t d he hcn2 N9 _ fun d1 N10 hN10 he1 own2 _ _ N11 hN11 => ?_
 refine c_toIntS ns hns2 a2 c2 N11 _ fun ai ci N12 hN12 _ _ _ N13 hN13 => ?_
 have hoc := special_cnt g t ns
 have hSpec := c_spec_Specialize ctx1 hgl3 hgc2 he1 hcn4 ns hns2 a1 ai c1 ci
 have hImpl := fun (es2 : List D) (d2 : D) (ctx2 : Pms g es2) (he2 : t.Is d2) a2 a3 c2 c3 => c_impl_Specialize ctx2 hgl3 hgc2 he2 hcn4 ns hns2 a2 a3 c2 c3
 generalize special g t ns = o at hSpec hImpl hoc
 refine hSpec N13 _ fun w0 N14 hN14 hw0 _ _ hBw N15 hN15 => ?_
 refine c_toParamS ctx hgl2 hgc2 a c N15 _ fun a3 es3 c3 N16 hN16 ctx3 own3 _ _ N17 hN17 => ?_
 refine c_toTerm t d he hcn2 N17 _ fun d3 N18 hN18 he3 own4 _ _ N19 hN19 => ?_
 refine c_toIntS ns hns2 a2 c2 N19 _ fun aj cj N20 hN20 ownJ _ _ N21 hN21 => ?_
 refine hImpl es3 d3 ctx3 he3 a3 aj c3 cj N21 _ fun g0 N22 hN22 hg0 own5 _ _ N23 hN23 => ?_
 refine c_eqTerm _ g0 w0 hg0 hw0 N23 _ fun N24 hN24 _ => Br.of (fun h => by simp at h) fun _ => Br.of (fun h => by simp at h) fun _ N26 hN26 => ?_
 refine c_toParamS ctx hgl2 hgc2 a c N26 _ fun a4 es4 c4 N27 hN27 ctx4 _ _ _ N28 hN28 => ?_
 refine c_eqParamS ctx3 ctx4 a3 a4 c3 c4 N28 _ fun N29 hN29 _ => Br.of (fun h => by simp at h) fun _ N31 hN31 => ?_
 refine c_toTerm t d he hcn2 N31 _ fun d5 N32 hN32 he5 _ _ _ N33 hN33 => ?_
 refine c_eqTerm t d3 d5 he3 he5 N33 _ fun N34 hN34 _ => Br.of (fun h => by simp at h) fun _ N36 hN36 => ?_
 refine c_toIntS ns hns2 a2 c2 N36 _ fun ak ck N37 hN37 _ _ _ N38 hN38 => ?_
 refine c_eqIntS ns (by omega) aj ak cj ck N38 _ fun N39 hN39 _ => Br.of (fun h => by simp at h) fun _ => ?_
 have B0 : ∀ M, N ≤ M → Bel M (.sl a 4 es c) := fun M h => hB0.mono h
 have B1 : ∀ M, N ≤ M → Bel M d := fun M h => hB1.mono h
 have B2 : ∀ M, N ≤ M → Bel M (.sl a2 0 (intsD ns) c2) := fun M h => hB2.mono h
 have d35 := apart_hi own3 own5 (by omega)
 have d45 := apart_hi own4 own5 (by omega)
 have d34 := apart_hi own3 own4 (by omega)
 have d3J := apart_hi own3 ownJ (by omega)
 have d4J := apart_hi own4 ownJ (by omega)
 have dJ5 := apart_hi ownJ own5 (by omega)
 have p30 := apart_lo own3 (B0 _ (by omega)); have p31 := apart_lo own3 (B1 _ (by omega)); have p32 := apart_lo own3 (B2 _ (by omega)); have p3w := apart_lo own3 (hBw.mono (by omega))
 have p40 := apart_lo own4 (B0 _ (by omega)); have p41 := apart_lo own4 (B1 _ (by omega)); have p42 := apart_lo own4 (B2 _ (by omega)); have p4w := apart_lo own4 (hBw.mono (by omega))
 have pJ0 := apart_lo ownJ (B0 _ (by omega)); have pJ1 := apart_lo ownJ (B1 _ (by omega)); have pJ2 := apart_lo ownJ (B2 _ (by omega)); have pJw := apart_lo ownJ (hBw.mono (by omega))
 have p50 := apart_lo own5 (B0 _ (by omega)); have p51 := apart_lo own5 (B1 _ (by omega)); have p52 := apart_lo own5 (B2 _ (by omega)); have p5w := apart_lo own5 (hBw.mono (by omega))
 refine ⟨own3.tree, own3.low (by omega), ⟨fun x hx => ?_⟩, fun N43 hN43 => ?_⟩
 ·simp only [List.mem_cons, List.not_mem_nil, or_false] at hx
  rcases hx with rfl | rfl | rfl | rfl | rfl | rfl | rfl <;> first | exact p30 | exact p31 | exact p32 | exact p3w | exact d3J | exact d34 | exact d35
 refine c_markParamS ctx3 a3 c3 own3.tree 1 (by omega) (by omega) N43 _ fun es5 k5 N44 hN44 hf5 hl5 hk5 hk5' _ => ?_
 refine ⟨own4.tree, own4.low (by omega), rfl, ⟨fun x hx => ?_⟩, fun N45 hN45 => ?_⟩
 ·simp only [List.mem_cons, List.not_mem_nil, or_false] at hx
  rcases hx with rfl | rfl | rfl | rfl | rfl | rfl <;> first | exact p40 | exact p41 | exact p42 | exact p4w | exact d4J | exact d45
 refine c_markTerm he3 own4.tree k5 (by omega) (by omega) N45 _ fun d6 k6 N46 hN46 hf6 hk6 hk6' _ => ?_
 have dJ6 : ∀ b ∈ (D.sl aj 0 (intsD ns) cj).foot, b ∉ d6.foot := by rw [hf6]; exact fun b hb hc => d4J b hc hb
 have d56 : ∀ b ∈ g0.foot, b ∉ d6.foot := by rw [hf6]; exact fun b hb hc => d45 b hc hb
 refine ⟨ownJ.tree, ownJ.low (by omega), ⟨fun x hx => ?_⟩, fun N47 hN47 => ?_⟩
 ·simp only [List.mem_cons, List.not_mem_nil, or_false] at hx
  rcases hx with rfl | rfl | rfl | rfl | rfl | rfl <;> first | exact pJ0 | exact pJ1 | exact pJ2 | exact pJw | exact dJ6 | exact dJ5
 refine c_markIntS ns (by omega) aj cj ownJ.tree k6 (by omega) (by omega) N47 _ fun N48 hN48 _ => Br.dec (fun h => by omega) fun _ N50 hN50 => ?_
 refine c_eqTerm _ g0 w0 hg0 hw0 N50 _ fun N51 hN51 _ => Br.of (fun h => by simp at h) fun _ => Br.of (fun h => by simp at h) fun _ => ?_
 refine ⟨own5.tree, own5.low (by omega), rfl, ⟨fun x hx => ?_⟩, fun N54 hN54 => ?_⟩
 ·simp only [List.mem_cons, List.not_mem_nil, or_false] at hx
  rcases hx with rfl | rfl | rfl | rfl | rfl <;> first | exact p50 | exact p51 | exact p52 | exact p5w | exact d56
 refine c_markTermX hg0 own5.tree 1 (by omega) (by omega) N54 _ fun g1 N55 hN55 hg1 hfg _ N56 hN56 => ?_
 have hkk := (o.getD (Tm.nod 0 [])).mkk_k 1
 have hheld := c_heldTermX _ 1 g1 hg1 (by omega) (by omega)
 refine hheld N56 _ fun N57 hN57 _ => Br.dec (fun h => by omega) fun _ => Br.bne (fun h => absurd rfl h) fun _ N60 hN60 => ?_
 refine c_toParamS ctx hgl2 hgc2 a c N60 _ fun a5 es6 c5 N61 hN61 ctx5 _ _ _ N62 hN62 => ?_
 refine c_toTerm t d he hcn2 N62 _ fun d7 N63 hN63 he7 _ _ _ N64 hN64 => ?_
 refine c_toIntS ns hns2 a2 c2 N64 _ fun al cl N65 hN65 _ _ _ N66 hN66 => ?_
 refine hImpl es6 d7 ctx5 he7 a5 al c5 cl N66 _ fun g2 N67 hN67 hg2 _ _ _ N68 hN68 => ?_
 refine c_eqTerm _ g2 w0 hg2 hw0 N68 _ fun N69 hN69 _ => Br.of (fun h => by simp at h) fun _ => Br.of (fun h => by simp at h) fun _ N72 hN72 => ?_
 exact hheld N72 _ fun N73 hN73 _ => Br.dec (fun h => by omega) fun _ => Br.bne (fun h => absurd rfl h) fun _ N76 hN76 => rfl
end Go.Proofs.YtfkmegifjiiclaaGreat

/- What was read is a list of parameters. -/
set_option linter.unusedVariables false
set_option maxRecDepth 100000
namespace Go.Proofs.YtfkmegifjiiclaaGreat
open Go Go.Proofs Go.Proofs.Tryz

theorem ez62 : ezOf prog 62 = 4 := by kernel_rfl
theorem pms_of_shp {n : Nat} {xs : List D} (h : Shp prog n 22 xs) : ∃ a es c, xs = [.sl a 4 es c] ∧ ∃ g, Pms g es := by
 obtain ⟨m, a, es, c, rfl, rfl, hl, hx⟩ := shpSlice underlying22 h
 rw [ez62]
 refine ⟨a, es, c, rfl, ?_⟩
 obtain ⟨g, hg⟩ := all2_choose (R := Pm.Is) (es := es) fun x hxm => by
  have h := hx x hxm
  ·obtain ⟨m, rfl, h⟩ := shpStruct underlying62 h
   obtain ⟨a1, b1, hc, h1, a2, b2, rfl, h2, a3, b3, rfl, h3, rfl⟩ := h
   obtain ⟨nm, rfl, hnm⟩ := shpStr underlying9 h1
   obtain ⟨t0, t1, rfl, ty, hty⟩ := ty_of_shp _ _ h2
   obtain ⟨dy, rfl⟩ := shpBool underlying4 h3
   refine ⟨⟨nm, ty, dy⟩, t0, t1, ?_, hnm, hty⟩
   rw [ag_of (x := x) (n := 4) (by rw [hc]; rfl) (by decide), hc]; rfl
 exact ⟨g, hl, hg⟩
end Go.Proofs.YtfkmegifjiiclaaGreat

/- What was read is a list of numbers. -/
set_option linter.unusedVariables false
set_option maxRecDepth 100000
namespace Go.Proofs.YtfkmegifjiiclaaGreat
open Go Go.Proofs Go.Proofs.Tryz

theorem ez3 : ezOf prog 3 = 0 := by kernel_rfl
theorem ints_all2 : ∀ {ns : List Int} {es : List D}, All2 (fun (k : Int) d => d = .lit (.int .i64 k)) ns es → es = intsD ns
 | [], es, h => h
 | n :: ns, es, ⟨d, ds, he, hd, h⟩ => by subst he; subst hd; rw [ints_all2 h]; rfl
theorem ints_of {W : World} {n : Nat} {a : Option Addr} {es : List D} {c : Nat} (hH : Holds W (.sl a 0 es c)) (h : Shp prog n 46 [.sl a 0 es c]) : ∃ ns, es = intsD ns := by
 obtain ⟨m, a', es', c', e, hs, hl, hx⟩ := shpSlice underlying46 h
 have he : es' = es := by cases hs; rfl
 subst he
 have hcell : ∀ x ∈ es', x.isCell := by
  cases hH with
  | nil => intro x hx; simp at hx
  | sl h1 h2 h3 h4 h5 => intro x hx; exact h3 x hx
 obtain ⟨ns, hns⟩ := all2_choose (R := fun (k : Int) d => d = .lit (.int .i64 k)) (es := es') fun x hxm => by
  obtain ⟨k, hk⟩ := shpInt underlying3 (hx x hxm)
  have hc := hcell x hxm
  refine ⟨k, ?_⟩
  cases x <;> simp [D.isCell, D.cells] at hc hk ⊢ <;> exact hk
 exact ⟨ns, ints_all2 hns⟩
end Go.Proofs.YtfkmegifjiiclaaGreat

/- FnExactSpecialize holds as it is stated: for every input that the statement's row admits, the call returns true and each argument reads afterwards as before. No condition of our own. -/
namespace Go.Proofs.YtfkmegifjiiclaaGreat
open Go Go.Proofs Go.Proofs.Tryz Go.ChangeShapes Go.WideShapes Go.ChangeAt Go.RowKit

set_option maxHeartbeats 1600000 in
set_option maxRecDepth 100000 in
theorem fnExactSpecialize_lifted (os : Os) (started : os.Started) (H : Type) (enc : TypeId × Value → H) :
  ReturnsInHanded {} checked os 5 .any (Rows.fnExactSpecializeSpec.pre6 enc prog Tryz.f5 Rows.fnExactSpecializeRow.domain false) (Rows.fnExactSpecializeSpec.post enc prog Tryz.f5 false true false false) := by
 refine returnsInHanded_of_change_sized (C := checked) ownKnob_none started (by kernel_rfl) func5
  (ChangeSpec.witness6 (enc := enc) (C := checked) false ⟨#[], #[.slice none 0 0, .agg #[.int .i64 0, .string ⟨#[]⟩, .string ⟨#[]⟩, .int .i64 0, .int .i64 0, .slice none 0 0, .int .i64 0, .slice none 0 0, .slice none 0 0], .slice none 0 0], []⟩ 8 (by kernel_rfl) (by kernel_rfl) (by kernel_rfl) (by kernel_rfl)) ?_
 intro W base args ds gs before hval0 hW _ hsz _
 have hval : ∀ (j : Nat) t v, Tryz.f5.params[j]? = some t → args[j]? = some v → Value.okWide prog W .any base t v := hval0
 have hW' := hW
 obtain ⟨p, q, hA0, hV, rfl, hfz, _⟩ := hW
 have hA : DataW.TrodAll enc prog W 0 (fun _ => true) true Tryz.f5.params.toList args.toList ds p := hA0
 have hsz : (DataW.weightsEach prog (Tryz.f5.params.toList ++ []) (ds ++ gs)).all (· ≤ reachBytes) = true := hsz
 rw [params5] at hA hval hsz
 obtain ⟨v0, v1, v2, d0, d1, d2, p0, p1, p2, rfl, rfl, rfl, h0, h1, h2⟩ := trodAll_three hA
 obtain ⟨rfl, rfl⟩ := trodVars_none hV
 obtain ⟨n0, aC, esC, cC, e0, hH0, k0⟩ := slice_in plain_TT (by decide) underlying22 (hval 0 22 v0 rfl rfl) h0 (weights_at hsz (j := 0) rfl rfl)
 obtain ⟨n1, xs, e1, hH1, hI1, k1⟩ := struct_in plain_TT (by decide) (by rw [ez28]; decide) (hval 1 28 v1 rfl rfl) h1 (weights_at hsz (j := 1) rfl rfl)
 obtain ⟨n2, aI, esI, cI, e2, hH2, k2⟩ := slice_in plain_TT (by decide) underlying46 (hval 2 46 v2 rfl rfl) h2 (weights_at hsz (j := 2) rfl rfl)
 rw [ez3] at e2 hH2 k2
 rw [ez62] at e0 hH0 k0
 have c28 : prog.cellsOf 28 = 9 := by kernel_rfl
 rw [c28] at e1 hI1
 obtain ⟨a', es', c', hsl, g, ctx⟩ := pms_of_shp k0
 cases hsl
 obtain ⟨t, ht, _⟩ := tm_of_shp _ _ k1
 obtain ⟨ns, rfl⟩ := ints_of hH2 k2
 have hc := (law_Specialize ctx ht ns aC aI cC cI W.heap.size).h (fun _ => False) W rfl (fun _ h => h.elim) (fun p hp => by
  simp only [List.mem_cons, List.not_mem_nil, or_false] at hp
  rcases hp with rfl | rfl | rfl
  ·exact ⟨⟨hH0, fun _ _ => id⟩, rfl⟩
  ·exact ⟨⟨⟨hH1, fun _ _ => id⟩, hI1⟩, rfl⟩
  ·exact ⟨⟨hH2, fun _ _ => id⟩, rfl⟩)
 have hargs : ([PV.sv aC 4 esC cC, .dg 9 (.ag xs), .sv aI 0 (intsD ns) cI].map (PV.val [])).toArray = #[v0, v1, v2] := by
  simp only [List.map_cons, List.map_nil, e0, e1, e2]
 rw [hargs] at hc
 refine hc.mono fun e W' hf => ?_
 exact post_true kids full (by rw [params5]; decide) rfl (by kernel_rfl) underlying4 rfl hW' (ret1_of hf)

theorem fnExactSpecialize_holds : Rows.FnExactSpecializeSaid :=
 OpenClaim.holds_of_wide 5 Tryz.f5 rfl rfl rfl rfl rfl rfl rfl ⟨rfl, rfl, rfl, rfl, rfl⟩ rfl rfl rfl rfl rfl (by kernel_rfl) func5 (by kernel_rfl)
  (of_decide_eq_true (by kernel_rfl)) (by unfold Func.isWrapper; first | (rw [if_pos (by decide +kernel)]; kernel_rfl) | (rw [if_neg (by decide +kernel)]; exact ⟨rfl, rfl⟩))
  (fun os started H enc _ => fnExactSpecialize_lifted os started H enc)

#print axioms fnExactSpecialize_holds
end Go.Proofs.YtfkmegifjiiclaaGreat
