/- Terms that are held. -/
import Derived.Test.YtfkmegifjiiclaaGreatWh
import Derived.Test.YtfkmegifjiiclaaGreatWl
import Derived.Test.YtfkmegifjiiclaaGreatWm
import Derived.Test.YtfkmegifjiiclaaGreatWs
import Derived.Test.YtfkmegifjiiclaaGreatWt
import Derived.Test.YtfkmegifjiiclaaGreatWa
import Derived.Test.YtfkmegifjiiclaaGreatWn
import Derived.Test.YtfkmegifjiiclaaGreatWe
set_option linter.unusedVariables false
set_option linter.unusedSimpArgs false
namespace Go.Proofs.YtfkmegifjiiclaaGreat
open Go Go.Proofs Go.Proofs.Tryz Go.IntWalk

def Tm.as : Tm → List Tm
 | .mk _ _ _ _ _ _ l => l
theorem zKN (l : List Ty) (k : Int) (es : List D) (a : Option Addr) (c : Nat) (hes : All2 Ty.Is (zL l k).1 es) (hlen : es.length ≤ 4611686018427387904) (h0 : 0 ≤ k) (h1 : k + zH l ≤ 1152921504606846976) : tf 83 [.sv a 2 es c, .int .i64 k] (zL l k).2 := by
 have h := zCL (.mk 0 (zL l k).1) es a c hes hlen k h0 (by simp only [Ty.as, su]; exact h1)
 simp only [Ty.as, zFD l k h0] at h
 exact h
theorem zIM : ∀ (t : Tm) (k : Int) (es : List D) (a : Option Addr) (c : Nat), All2 Tm.Is (yW t.as k).1 es → es.length ≤ 4611686018427387904 → 0 ≤ k → k + 4 * zJ t.as ≤ 288230376151711744 → tf 35 [.sv a 9 es c, .int .i64 k] (yW t.as k).2 := by
 refine Tm.ind fun kk nm ot n ty re l ih k es a c hes hlen h0 h1 N Q hQ => ?_
 simp only [Tm.as] at hes hQ h1
 have hl := hes.len
 rw [zHv] at hl
 refine zBh N a es c k Q fun _ => ?_
 have key : ∀ (xs : List Tm) (i : Nat) (m : Int) (N' : Nat), N ≤ N' → (∀ x ∈ xs, x ∈ l) → i + xs.length = es.length → (yW l k).1.drop i = (yW xs m).1 → (yW xs m).2 = (yW l k).2 → 0 ≤ m → m + 4 * zJ xs ≤ 288230376151711744 → y4 Q N a es c m i N' := by
  intro xs
  induction xs with
  | nil =>
    intro i m N' hN' _ hi hd hk hm _
    refine uE _ _ _ _ _ _ _ _ (Br.dec (fun h => ?_) fun _ N1 hN1 => ?_)
    ·simp at hi; omega
    ·simp only [yW] at hk; exact Qi (hQ _ (by omega)) hk.symm
  | cons x ts ihx =>
    intro i m N' hN' hmem hi hd hk hm hb
    cases x with
    | mk kx nx ox n_x tyx rex lx =>
    obtain ⟨tk, tl⟩ := tyx
    obtain ⟨rk, rl⟩ := rex
    have hx := ih (.mk kx nx ox n_x (.mk tk tl) (.mk rk rl) lx) (hmem _ (by simp))
    simp only [Tm.as] at hx
    simp only [yW, Ty.as] at hd hk
    simp only [zJ, Tm.cnt, Ty.cnt] at hb
    simp only [List.length_cons] at hi
    have hkT := xQ tl (m + 1 + 1 + 1 + 1 + 1)
    generalize hT : zL tl (m + 1 + 1 + 1 + 1 + 1) = mT at hd hk hkT
    have hkR := xQ rl (mT.2 + 1)
    generalize hR : zL rl (mT.2 + 1) = mR at hd hk hkR
    have hkA := zAv lx mR.2
    generalize hA : yW lx mR.2 = mA at hd hk hkA
    have hg : (yW l k).1[i]? = some (Tm.mk m (tn (m + 1)) (tn (m + 1 + 1)) (m + 1 + 1 + 1) (.mk (m + 1 + 1 + 1 + 1) mT.1) (.mk mT.2 mR.1) mA.1) := by
     have := congrArg (fun u => u[0]?) hd
     simpa using this
    have hr := hes.get hg
    obtain ⟨t0, t1, r0, r1, a2, es2, c2, hd2, hh, hlen2, hes2⟩ := Tm.is_mk.1 hr
    obtain ⟨kT, lT, aT, esT, cT, eT, rfl, rfl, hlenT, hesT⟩ := Ty.is_two hh.ty
    obtain ⟨kR, lR, aR, esR, cR, eR, rfl, rfl, hlenR, hesR⟩ := Ty.is_two hh.re
    injection eT with eT1 eT2
    injection eR with eR1 eR2
    subst eT1; subst eT2; subst eR1; subst eR2
    have hlt : (i : Int) < (es.length : Int) := by omega
    have B : (0 : Int) ≤ (i : Int) ∧ (i : Int) < (es.length : Int) := ⟨by omega, hlt⟩
    refine uE _ _ _ _ _ _ _ _ ?_
    rw [i64_in (m + 1) (by omega), i64_in (m + 1 + 1) (by omega), i64_in (m + 1 + 1 + 1) (by omega), i64_in (m + 1 + 1 + 1 + 1) (by omega), i64_in (m + 1 + 1 + 1 + 1 + 1) (by omega), i64_in ((i : Int) + 1) (by omega)]
    rw [Int.toNat_natCast, hd2]
    refine Br.dec (fun _ => ?_) fun h => absurd hlt h
    refine ⟨B, _, rfl, Br.bne (fun h => absurd rfl h) fun _ => ⟨B, _, rfl, fun N2 hN2 => ?_⟩⟩
    refine tv (m + 1) (by omega) (by omega) N2 _ fun N3 hN3 _ => Br.nstr (fun h => absurd rfl h) fun _ => ⟨B, _, rfl, fun N5 hN5 => ?_⟩
    refine tv (m + 1 + 1) (by omega) (by omega) N5 _ fun N6 hN6 _ => Br.nstr (fun h => absurd rfl h) fun _ => ⟨B, _, rfl, Br.bne (fun h => absurd rfl h) fun _ => ⟨B, _, rfl, Br.bne (fun h => absurd rfl h) fun _ => ⟨B, _, _, _, rfl, fun N10 hN10 => ?_⟩⟩⟩
    have hcT := zKN tl (m + 1 + 1 + 1 + 1 + 1) esT aT cT (by rw [hT]; exact vK hesT) hlenT (by omega) (by omega)
    rw [hT] at hcT
    refine hcT N10 _ fun N11 hN11 _ => Br.dec (fun h => by omega) fun _ => ⟨B, _, rfl, Br.bne (fun h => absurd rfl h) fun _ => ⟨B, _, _, _, rfl, fun N14 hN14 => ?_⟩⟩
    rw [i64_in (mT.2 + 1) (by omega)]
    have hcR := zKN rl (mT.2 + 1) esR aR cR (by rw [hR]; exact vK hesR) hlenR (by omega) (by omega)
    rw [hR] at hcR
    refine hcR N14 _ fun N15 hN15 _ => Br.dec (fun h => by omega) fun _ => ⟨B, _, _, _, rfl, fun N17 hN17 => ?_⟩
    have hcA := hx mR.2 es2 a2 c2 (by rw [hA]; exact hes2) hlen2 (by omega) (by omega)
    rw [hA] at hcA
    refine hcA N17 _ fun N18 hN18 _ => Br.dec (fun h => by omega) fun _ => ?_
    refine ihx (i + 1) mA.2 N18 (by omega) (fun x hx => hmem x (by simp [hx])) (by omega) ?_ hk (by omega) (by omega)
    have := congrArg (List.drop 1) hd
    simpa [List.drop_drop, Nat.add_comm] using this
 exact key l 0 k N (Nat.le_refl _) (fun x h => h) (by omega) (by simp) rfl h0 h1
theorem zJe (t : Tm) (k : Int) (d : D) (hd : (t.mkd k).Is d) (h0 : 0 ≤ k) (h1 : k + 4 * t.cnt ≤ 288230376151711744) : tf 19 [.dg 9 d, .int .i64 k] (t.mkk k) := fun N Q hQ => by
 obtain ⟨kk, nm, ot, n, ⟨tk, tl⟩, ⟨rk, rl⟩, l⟩ := t
 simp only [Tm.mkd, Tm.mkk, Ty.as, Ty.k] at hd hQ
 simp only [Tm.cnt, Ty.cnt] at h1
 have hkT := xQ tl k
 generalize hT : zL tl k = mT at hd hQ hkT
 have hkR := xQ rl mT.2
 generalize hR : zL rl mT.2 = mR at hd hQ hkR
 have hkA := zAv l mR.2
 obtain ⟨t0, t1, r0, r1, a2, es2, c2, rfl, hh, hlen2, hes2⟩ := Tm.is_mk.1 hd
 obtain ⟨kT, lT, aT, esT, cT, eT, rfl, rfl, hlenT, hesT⟩ := Ty.is_two hh.ty
 obtain ⟨kR, lR, aR, esR, cR, eR, rfl, rfl, hlenR, hesR⟩ := Ty.is_two hh.re
 injection eT with eT1 eT2
 injection eR with eR1 eR2
 subst eT1; subst eT2; subst eR1; subst eR2
 have hcT : zH mT.1 = zH tl := by rw [← hT]; exact su tl k
 have hcR : zH mR.1 = zH rl := by rw [← hR]; exact su rl _
 have hmT : ua mT.1 k = mT.2 := by rw [← hT]; exact zFD tl k h0
 have hmR : ua mR.1 mT.2 = mR.2 := by rw [← hR]; exact zFD rl _ (by omega)
 refine zDd N _ k Q fun _ N1 hN1 => ?_
 have h2 := zEq (kk := tk) (a := aT) (c := cT) hesT hlenT k h0 (by omega)
 rw [hmT] at h2
 refine h2 N1 _ fun N2 hN2 _ => Br.dec (fun h => by omega) fun _ N4 hN4 => ?_
 have h3 := zEq (kk := rk) (a := aR) (c := cR) hesR hlenR mT.2 (by omega) (by omega)
 rw [hmR] at h3
 refine h3 N4 _ fun N5 hN5 _ => Br.dec (fun h => by omega) fun _ => ⟨_, _, _, rfl, fun N7 hN7 => ?_⟩
 refine zIM (.mk 0 (bytes []) (bytes []) 0 (.mk 0 []) (.mk 0 []) l) mR.2 es2 a2 c2 hes2 hlen2 (by omega) (by simp only [Tm.as]; omega) N7 _ fun N8 hN8 _ => Br.dec (fun h => by simp only [Tm.as] at h; omega) fun _ N10 hN10 => ?_
 exact hQ _ (by omega)
end Go.Proofs.YtfkmegifjiiclaaGreat

/- Specialize: numbers marked, and the law. -/
set_option linter.unusedVariables false
set_option linter.unusedSimpArgs false
namespace Go.Proofs.YtfkmegifjiiclaaGreat
open Go Go.Proofs Go.Proofs.Tryz Go.IntWalk

def mkI : Nat → Int → List Int
 | 0, _ => []
 | n + 1, k => k :: mkI n (k + 1)
theorem zMW : ∀ (n : Nat) (k : Int), (mkI n k).length = n
 | 0, _ => rfl
 | n + 1, k => by simp [mkI, zMW n]
theorem zLs : ∀ (l : List Int) (done : List Int), (done ++ l).length ≤ 4611686018427387904 →
  ∀ (T : List Nat) (b0 N m c t : Nat) (k : Int) (R : Int → D → Nat → Prop), 0 ≤ k → k + l.length ≤ 2305843009213693952 → ∀ (q N1 : Nat), N ≤ N1 → m = (done ++ l).length →
  (∀ N', N1 ≤ N' → R (k + l.length) (.ag (zM (done ++ mkI l.length k))) N') → yb T b0 R N m c k done.length t (zM (done ++ l)) q N1
 | [], done, hlen, T, b0, N, m, c, t, k, R, hk, hK, q, N1, hN1, hm, hR => by
   rw [List.append_nil] at *
   refine vA _ _ _ _ _ _ _ _ _ _ _ _ (Br.dec (fun hc => by omega) fun _ => ⟨rfl, fun N3 hN3 => ?_⟩)
   have := hR N3 (by omega)
   simpa [mkI] using this
 | s :: ts, done, hlen, T, b0, N, m, c, t, k, R, hk, hK, q, N1, hN1, hm, hR => by
   have hlt : (done.length : Int) < (m : Int) := by rw [hm]; simp; omega
   have hl2 : done.length < (zM (done ++ s :: ts)).length := by simp [zM]
   simp only [List.length_cons] at hK
   refine vA _ _ _ _ _ _ _ _ _ _ _ _ (Br.dec (fun _ => ?_) fun hc => absurd hlt hc)
   rw [i64_in (k + 1) (by omega), i64_in ((done.length : Int) + 1) (by rw [hm] at hlt; simp at hlt hlen; omega)]
   simp only [Int.toNat_natCast, Nat.zero_add]
   refine ⟨⟨by omega, hlt, hl2⟩, hl2, ?_⟩
   have hset : (zM (done ++ s :: ts)).set done.length (.lit (.int .i64 k)) = zM ((done ++ [k]) ++ ts) := by simp [zM]
   rw [hset]
   have := zLs ts (done ++ [k]) (by simpa using hlen) T b0 N m c t (k + 1) R (by omega) (by omega) q N1 (by omega) (by rw [hm]; simp) fun N' h => by
    have := hR N' (by omega)
    simp only [List.length_cons, mkI] at this
    rw [show (k + ((ts.length + 1 : Nat) : Int)) = k + 1 + ts.length by omega] at this
    simpa using this
   simpa using this
theorem zKh (l : List Int) (hl : l.length ≤ 1152921504606846976) (a : Option Addr) (c : Nat) (ht : Tree (.sl a 0 (zM l) c)) (k : Int) (hk : 0 ≤ k) (hk2 : k ≤ 1152921504606846976) (N : Nat) (R : D → Int → Nat → Prop)
  (hR : ∀ N', N ≤ N' → R (.sl a 0 (zM (mkI l.length k)) c) (k + l.length) N') : MC prog 26 (.sl a 0 (zM l) c) k N R := by
 by_cases hne : l = []
 ·subst hne
  refine zJv (zCa N a [] c k _ fun _ => zAh _ _ _ _ _ _ _ _ (Br.of (fun hc => ?_) fun _ N2 hN2 => ?_))
  ·simp at hc
  ·simpa [mkI, zM] using hR N2 hN2
 ·have hw : zM l ≠ [] := by simpa [zM] using hne
  cases a with
  | none => exact zFu (by kernel_rfl) hw
  | some ad =>
    refine zCx N ad (zM l) c k R (fun k' x N' => N ≤ N' ∧ x = .ag (zM (mkI l.length k)) ∧ k' = k + l.length) ht hw (by rw [we]; unfold maxLen; omega) (fun t => ?_) ?_
    ·have := zLs l [] (by simp; omega) (D.sl (some ad) 0 (zM l) c).foot ad.block N (zM l).length c t k (fun k' x N' => N ≤ N' ∧ x = .ag (zM (mkI l.length k)) ∧ k' = k + l.length) hk (by omega) (zM l).length N (Nat.le_refl _) (by simp [zM]) fun N' h => ⟨h, by simp, rfl⟩
     simpa using this
    ·rintro k' x N' ⟨hN', rfl, rfl⟩
     exact ⟨zM (mkI l.length k), rfl, by simp [we, zMW], by simp [uh], hR N' hN'⟩
theorem zJs {m : Nat} : ∀ {g : List Pm}, (∀ x ∈ g, x.ty.cnt ≤ m) → zA4 g ≤ g.length * m
 | [], _ => by simp [zA4]
 | x :: g, h => by
   have h1 := zJs (g := g) fun y hy => h y (by simp [hy])
   have h2 := h x (by simp)
   simp only [zA4, List.length_cons, Nat.add_mul, Nat.one_mul]
   omega
end Go.Proofs.YtfkmegifjiiclaaGreat

/- ResidualFunction: the reference, the program, and the law. -/
set_option linter.unusedVariables false
set_option linter.unusedSimpArgs false
namespace Go.Proofs.YtfkmegifjiiclaaGreat
open Go Go.Proofs Go.Proofs.Tryz Go.IntWalk

/-- what is left of a body, as a function of its later parameters, or none -/
def zCT (g : List Pm) (e : Tm) (ns : List Int) : Option Tm := (yS g e ns).map (ro (sC g))
theorem zA2 {g : List Pm} {e : Tm} {ns : List Int} {t : Tm} (h : yS g e ns = some t) : rS g = true := by
 unfold yS at h
 split at h
 ·rename_i hb; exact (zCo hb.1).1
 ·cases h
theorem zK4 {g : List Pm} (hcg : ∀ x ∈ g, x.ty.cnt ≤ 2000000) (e : Tm) (ns : List Int) : ((zCT g e ns).getD (Tm.nod 0 [])).cnt ≤ e.cnt + 20000000 := by
 have h1 := qW g e ns
 unfold zCT
 cases ho : yS g e ns with
 | none => simp only [Option.map_none, Option.getD_none, zF6, zJ]; omega
 | some x =>
   rw [ho] at h1
   have h2 := zA6 (zA2 ho) hcg
   simp only [Option.getD_some] at h1
   simp only [Option.map_some, Option.getD_some, zDJ]
   omega
theorem tQ {g : List Pm} {es : List D} (h : Pms g es) (hg : g.length ≤ 1073741) (hcg : ∀ x ∈ g, x.ty.cnt ≤ 2000000) {e : Tm} {d : D} (he : e.Is d) (hc : e.cnt ≤ 250000000) (ns : List Int) (hn : ns.length ≤ 1073741824) (a a2 : Option Addr) (c c2 : Nat) :
  zPz 29 [.sv a 4 es c, .dg 9 d, .sv a2 0 (zM ns) c2] (zCT g e ns) := fun N Q hQ => by
 have hc2 : ∀ x ∈ g, x.ty.cnt ≤ 1073741824 := fun x hx => by have := hcg x hx; omega
 have hll := wX g
 have h1 := qW g e ns
 unfold zCT at hQ
 refine ta N a es c d a2 _ c2 Q fun _ _ _ N1 hN1 => ?_
 refine zAq h hg hc2 he hc ns hn a a2 c c2 N1 _ fun x N2 hN2 hx _ _ _ => ?_
 cases ho : yS g e ns with
 | none =>
   rw [ho] at hQ
   exact Br.not (fun _ N3 hN3 => hQ _ _ (by omega) (zJt rfl (by simp)) (zCE 0)) fun hb => by cases hb
 | some t =>
   have h2 := zA6 (zA2 ho) hcg
   rw [ho] at hQ hx h1
   simp only [Option.getD_some] at hx h1
   refine Br.not (fun hb => by cases hb) fun _ N4 hN4 => ?_
   refine uO h (by omega) hc2 a c N4 _ fun a3 es3 c3 a4 es4 c4 N5 hN5 p3 p4 _ _ _ N6 hN6 => ?_
   refine zAM p4 (by omega) (by omega) hx (by omega) a4 c4 N6 _ fun d3 N7 hN7 hd3 o3 _ _ N8 hN8 => ?_
   exact hQ _ _ (by omega) hd3 (o3.mono (by omega) (by omega))
theorem tC {g : List Pm} {es : List D} (h : Pms g es) (hg : g.length ≤ 1073741) (hcg : ∀ x ∈ g, x.ty.cnt ≤ 2000000) {e : Tm} {d : D} (he : e.Is d) (hc : e.cnt ≤ 250000000) (ns : List Int) (hn : ns.length ≤ 1073741824) (a a2 : Option Addr) (c c2 : Nat) :
  zPz 30 [.sv a 4 es c, .dg 9 d, .sv a2 0 (zM ns) c2] (zCT g e ns) := fun N Q hQ => by
 have hc2 : ∀ x ∈ g, x.ty.cnt ≤ 1073741824 := fun x hx => by have := hcg x hx; omega
 have hll := wX g
 have h1 := qW g e ns
 unfold zCT at hQ
 refine tU N a es c d a2 _ c2 Q fun _ _ _ N1 hN1 => ?_
 refine uR h (by omega) hc2 a c N1 _ fun a3 es3 c3 a4 es4 c4 N2 hN2 p3 p4 _ _ _ N3 hN3 => ?_
 refine zAn h hg hc2 he hc ns hn a a2 c c2 N3 _ fun x N4 hN4 hx _ _ _ => ?_
 cases ho : yS g e ns with
 | none =>
   rw [ho] at hQ
   exact Br.not (fun _ N5 hN5 => hQ _ _ (by omega) (zJt rfl (by simp)) (zCE 0)) fun hb => by cases hb
 | some t =>
   have h2 := zA6 (zA2 ho) hcg
   rw [ho] at hQ hx h1
   simp only [Option.getD_some] at hx h1
   refine Br.not (fun hb => by cases hb) fun _ N6 hN6 => ?_
   refine zAI p4 (by omega) (by omega) hx (by omega) a4 c4 N6 _ fun d3 N7 hN7 hd3 o3 _ _ N8 hN8 => ?_
   exact hQ _ _ (by omega) hd3 (o3.mono (by omega) (by omega))
/-- the law FnExactResidualFunction: for all data it answers true -/
theorem rh {g : List Pm} {es : List D} {t : Tm} {d : D} (ctx : Pms g es) (he : t.Is d) (ns : List Int) (a a2 : Option Addr) (c c2 : Nat) (N : Nat) :
  ACalls prog 7 [.bool] [.sv a 4 es c, .dg 9 d, .sv a2 0 (zM ns) c2] N (fun r _ => r = true) := by
 have hnl := we ns
 refine wk N a es c d a2 _ c2 _ fun hB0 hB1 hB2 => Br.dec (fun _ N1 _ => rfl) fun hns N1 hN1 => ?_
 refine zK5 ctx a c 1048576 (by omega) (by omega) N1 _ fun r N2 hN2 hr _ => Br.dec (fun _ N3 _ => rfl) fun hneg N4 hN4 => ?_
 obtain ⟨hr0, hr1, hgl, hgc⟩ := hr.resolve_left (by omega)
 refine zNm t d he r (by omega) (by omega) N4 _ fun r2 N5 hN5 hr2 _ => Br.dec (fun _ N6 _ => rfl) fun hneg2 N7 hN7 => ?_
 obtain ⟨hq0, hq1, hcn⟩ := hr2.resolve_left (by omega)
 have hcn : t.cnt ≤ 3145731 := by omega
 have hgl : g.length ≤ 1048576 := by omega
 have hgc : ∀ x ∈ g, x.ty.cnt ≤ 1048577 := fun x hx => by have := hgc x hx; omega
 have hgc2 : ∀ x ∈ g, x.ty.cnt ≤ 1073741824 := fun x hx => by have := hgc x hx; omega
 have hgc3 : ∀ x ∈ g, x.ty.cnt ≤ 2000000 := fun x hx => by have := hgc x hx; omega
 have htg : zA4 g ≤ 1048576 * 1048577 := Nat.le_trans (zJs hgc) (Nat.mul_le_mul_right _ hgl)
 have hgl2 : g.length ≤ 1073741824 := by omega
 have hgl3 : g.length ≤ 1073741 := by omega
 have hcn2 : t.cnt ≤ 1073741824 := by omega
 have hcn4 : t.cnt ≤ 250000000 := by omega
 have hns2 : ns.length ≤ 1073741824 := by omega
 have hns3 : ns.length ≤ 1048576 := by omega
 clear hr hr2
 refine rg ctx hgl2 hgc2 a c N7 _ fun a1 es1 c1 N8 hN8 ctx1 own1 _ _ N9 hN9 => ?_
 refine zB6 t d he hcn2 N9 _ fun d1 N10 hN10 he1 own2 _ _ N11 hN11 => ?_
 refine zB4 ns hns2 a2 c2 N11 _ fun ai ci N12 hN12 _ _ _ N13 hN13 => ?_
 have hoc := zK4 hgc3 t ns
 have hSpec := tQ ctx1 hgl3 hgc3 he1 hcn4 ns hns2 a1 ai c1 ci
 have hImpl := fun (es2 : List D) (d2 : D) (ctx2 : Pms g es2) (he2 : t.Is d2) a2 a3 c2 c3 => tC ctx2 hgl3 hgc3 he2 hcn4 ns hns2 a2 a3 c2 c3
 generalize zCT g t ns = o at hSpec hImpl hoc
 refine hSpec N13 _ fun w0 N14 hN14 hw0 _ _ hBw N15 hN15 => ?_
 refine rg ctx hgl2 hgc2 a c N15 _ fun a3 es3 c3 N16 hN16 ctx3 own3 _ _ N17 hN17 => ?_
 refine zB6 t d he hcn2 N17 _ fun d3 N18 hN18 he3 own4 _ _ N19 hN19 => ?_
 refine zB4 ns hns2 a2 c2 N19 _ fun aj cj N20 hN20 ownJ _ _ N21 hN21 => ?_
 refine hImpl es3 d3 ctx3 he3 a3 aj c3 cj N21 _ fun g0 N22 hN22 hg0 own5 _ _ N23 hN23 => ?_
 refine zCC _ g0 w0 hg0 hw0 N23 _ fun N24 hN24 _ => Br.of (fun h => by simp at h) fun _ => Br.of (fun h => by simp at h) fun _ N26 hN26 => ?_
 refine rg ctx hgl2 hgc2 a c N26 _ fun a4 es4 c4 N27 hN27 ctx4 _ _ _ N28 hN28 => ?_
 refine zKZ ctx3 ctx4 a3 a4 c3 c4 N28 _ fun N29 hN29 _ => Br.of (fun h => by simp at h) fun _ N31 hN31 => ?_
 refine zB6 t d he hcn2 N31 _ fun d5 N32 hN32 he5 _ _ _ N33 hN33 => ?_
 refine zCC t d3 d5 he3 he5 N33 _ fun N34 hN34 _ => Br.of (fun h => by simp at h) fun _ N36 hN36 => ?_
 refine zB4 ns hns2 a2 c2 N36 _ fun ak ck N37 hN37 _ _ _ N38 hN38 => ?_
 refine zNE ns (by omega) aj ak cj ck N38 _ fun N39 hN39 _ => Br.of (fun h => by simp at h) fun _ => ?_
 have B0 : ∀ M, N ≤ M → Bel M (.sl a 4 es c) := fun M h => hB0.mono h
 have B1 : ∀ M, N ≤ M → Bel M d := fun M h => hB1.mono h
 have B2 : ∀ M, N ≤ M → Bel M (.sl a2 0 (zM ns) c2) := fun M h => hB2.mono h
 have d35 := ra own3 own5 (by omega)
 have d45 := ra own4 own5 (by omega)
 have d34 := ra own3 own4 (by omega)
 have d3J := ra own3 ownJ (by omega)
 have d4J := ra own4 ownJ (by omega)
 have dJ5 := ra ownJ own5 (by omega)
 have p30 := yY own3 (B0 _ (by omega)); have p31 := yY own3 (B1 _ (by omega)); have p32 := yY own3 (B2 _ (by omega)); have p3w := yY own3 (hBw.mono (by omega))
 have p40 := yY own4 (B0 _ (by omega)); have p41 := yY own4 (B1 _ (by omega)); have p42 := yY own4 (B2 _ (by omega)); have p4w := yY own4 (hBw.mono (by omega))
 have pJ0 := yY ownJ (B0 _ (by omega)); have pJ1 := yY ownJ (B1 _ (by omega)); have pJ2 := yY ownJ (B2 _ (by omega)); have pJw := yY ownJ (hBw.mono (by omega))
 have p50 := yY own5 (B0 _ (by omega)); have p51 := yY own5 (B1 _ (by omega)); have p52 := yY own5 (B2 _ (by omega)); have p5w := yY own5 (hBw.mono (by omega))
 refine ⟨own3.tree, own3.low (by omega), ⟨fun x hx => ?_⟩, fun N43 hN43 => ?_⟩
 ·simp only [List.mem_cons, List.not_mem_nil, or_false] at hx
  rcases hx with rfl | rfl | rfl | rfl | rfl | rfl | rfl <;> first | exact p30 | exact p31 | exact p32 | exact p3w | exact d3J | exact d34 | exact d35
 refine zIj ctx3 a3 c3 own3.tree 1 (by omega) (by omega) N43 _ fun es5 k5 N44 hN44 hf5 hl5 hk5 hk5' _ => ?_
 refine ⟨own4.tree, own4.low (by omega), rfl, ⟨fun x hx => ?_⟩, fun N45 hN45 => ?_⟩
 ·simp only [List.mem_cons, List.not_mem_nil, or_false] at hx
  rcases hx with rfl | rfl | rfl | rfl | rfl | rfl <;> first | exact p40 | exact p41 | exact p42 | exact p4w | exact d4J | exact d45
 refine zK0 he3 own4.tree k5 (by omega) (by omega) N45 _ fun d6 k6 N46 hN46 hf6 hk6 hk6' _ => ?_
 have dJ6 : ∀ b ∈ (D.sl aj 0 (zM ns) cj).foot, b ∉ d6.foot := by rw [hf6]; exact fun b hb hc => d4J b hc hb
 have d56 : ∀ b ∈ g0.foot, b ∉ d6.foot := by rw [hf6]; exact fun b hb hc => d45 b hc hb
 refine ⟨ownJ.tree, ownJ.low (by omega), ⟨fun x hx => ?_⟩, fun N47 hN47 => ?_⟩
 ·simp only [List.mem_cons, List.not_mem_nil, or_false] at hx
  rcases hx with rfl | rfl | rfl | rfl | rfl | rfl <;> first | exact pJ0 | exact pJ1 | exact pJ2 | exact pJw | exact dJ6 | exact dJ5
 refine zKh ns (by omega) aj cj ownJ.tree k6 (by omega) (by omega) N47 _ fun N48 hN48 _ => Br.dec (fun h => by omega) fun _ N50 hN50 => ?_
 refine zCC _ g0 w0 hg0 hw0 N50 _ fun N51 hN51 _ => Br.of (fun h => by simp at h) fun _ => Br.of (fun h => by simp at h) fun _ => ?_
 refine ⟨own5.tree, own5.low (by omega), rfl, ⟨fun x hx => ?_⟩, fun N54 hN54 => ?_⟩
 ·simp only [List.mem_cons, List.not_mem_nil, or_false] at hx
  rcases hx with rfl | rfl | rfl | rfl | rfl <;> first | exact p50 | exact p51 | exact p52 | exact p5w | exact d56
 refine zDY hg0 own5.tree 1 (by omega) (by omega) N54 _ fun g1 N55 hN55 hg1 hfg _ N56 hN56 => ?_
 have hkk := (o.getD (Tm.nod 0 [])).mkk_k 1
 have hheld := zJe _ 1 g1 hg1 (by omega) (by omega)
 refine hheld N56 _ fun N57 hN57 _ => Br.dec (fun h => by omega) fun _ => Br.bne (fun h => absurd rfl h) fun _ N60 hN60 => ?_
 refine rg ctx hgl2 hgc2 a c N60 _ fun a5 es6 c5 N61 hN61 ctx5 _ _ _ N62 hN62 => ?_
 refine zB6 t d he hcn2 N62 _ fun d7 N63 hN63 he7 _ _ _ N64 hN64 => ?_
 refine zB4 ns hns2 a2 c2 N64 _ fun al cl N65 hN65 _ _ _ N66 hN66 => ?_
 refine hImpl es6 d7 ctx5 he7 a5 al c5 cl N66 _ fun g2 N67 hN67 hg2 _ _ _ N68 hN68 => ?_
 refine zCC _ g2 w0 hg2 hw0 N68 _ fun N69 hN69 _ => Br.of (fun h => by simp at h) fun _ => Br.of (fun h => by simp at h) fun _ N72 hN72 => ?_
 exact hheld N72 _ fun N73 hN73 _ => Br.dec (fun h => by omega) fun _ => Br.bne (fun h => absurd rfl h) fun _ N76 hN76 => rfl
end Go.Proofs.YtfkmegifjiiclaaGreat

/- What was read is a list of parameters. -/
set_option linter.unusedVariables false
set_option maxRecDepth 100000
namespace Go.Proofs.YtfkmegifjiiclaaGreat
open Go Go.Proofs Go.Proofs.Tryz

theorem zQc : zAG prog 62 = 4 := by kernel_rfl
theorem zKu {n : Nat} {xs : List D} (h : Shp prog n 22 xs) : ∃ a es c, xs = [.sl a 4 es c] ∧ ∃ g, Pms g es := by
 obtain ⟨m, a, es, c, rfl, rfl, hl, hx⟩ := pA underlying22 h
 rw [zQc]
 refine ⟨a, es, c, rfl, ?_⟩
 obtain ⟨g, hg⟩ := vf (R := Pm.Is) (es := es) fun x hxm => by
  have h := hx x hxm
  ·obtain ⟨m, rfl, h⟩ := zCW underlying62 h
   obtain ⟨a1, b1, hc, h1, a2, b2, rfl, h2, a3, b3, rfl, h3, rfl⟩ := h
   obtain ⟨nm, rfl, hnm⟩ := zMs underlying9 h1
   obtain ⟨t0, t1, rfl, ty, hty⟩ := zCI _ _ h2
   obtain ⟨dy, rfl⟩ := zOT underlying4 h3
   refine ⟨⟨nm, ty, dy⟩, t0, t1, ?_, hnm, hty⟩
   rw [zO9 (x := x) (n := 4) (by rw [hc]; rfl) (by decide), hc]; rfl
 exact ⟨g, hl, hg⟩
end Go.Proofs.YtfkmegifjiiclaaGreat

/- What was read is a list of numbers. -/
set_option linter.unusedVariables false
set_option maxRecDepth 100000
namespace Go.Proofs.YtfkmegifjiiclaaGreat
open Go Go.Proofs Go.Proofs.Tryz

theorem ez3 : zAG prog 3 = 0 := by kernel_rfl
theorem zIN : ∀ {ns : List Int} {es : List D}, All2 (fun (k : Int) d => d = .lit (.int .i64 k)) ns es → es = zM ns
 | [], es, h => h
 | n :: ns, es, ⟨d, ds, he, hd, h⟩ => by subst he; subst hd; rw [zIN h]; rfl
theorem zOX {W : World} {n : Nat} {a : Option Addr} {es : List D} {c : Nat} (hH : Holds W (.sl a 0 es c)) (h : Shp prog n 46 [.sl a 0 es c]) : ∃ ns, es = zM ns := by
 obtain ⟨m, a', es', c', e, hs, hl, hx⟩ := pA underlying46 h
 have he : es' = es := by cases hs; rfl
 subst he
 have hcell : ∀ x ∈ es', x.isCell := by
  cases hH with
  | nil => intro x hx; simp at hx
  | sl h1 h2 h3 h4 h5 => intro x hx; exact h3 x hx
 obtain ⟨ns, hns⟩ := vf (R := fun (k : Int) d => d = .lit (.int .i64 k)) (es := es') fun x hxm => by
  obtain ⟨k, hk⟩ := zJz underlying3 (hx x hxm)
  have hc := hcell x hxm
  refine ⟨k, ?_⟩
  cases x <;> simp [D.isCell, D.cells] at hc hk ⊢ <;> exact hk
 exact ⟨ns, zIN hns⟩
end Go.Proofs.YtfkmegifjiiclaaGreat

/- FnExactResidualFunction holds as it is stated: for every input that the statement's row admits, the call returns true and each argument reads afterwards as before. No condition of our own. -/
namespace Go.Proofs.YtfkmegifjiiclaaGreat
open Go Go.Proofs Go.Proofs.Tryz Go.ChangeShapes Go.WideShapes Go.ChangeAt Go.RowKit

set_option maxHeartbeats 1600000 in
set_option maxRecDepth 100000 in
theorem wo (os : Os) (started : os.Started) (H : Type) (enc : TypeId × Value → H) :
  ReturnsInHanded {} checked os 7 .any (Rows.fnExactResidualFunctionSpec.pre6 enc prog Tryz.f7 Rows.fnExactResidualFunctionRow.domain false) (Rows.fnExactResidualFunctionSpec.post enc prog Tryz.f7 false true false false) := by
 refine returnsInHanded_of_change_sized (C := checked) zH6 started (by kernel_rfl) func7
  (ChangeSpec.witness6 (enc := enc) (C := checked) false ⟨#[], #[.slice none 0 0, .agg #[.int .i64 0, .string ⟨#[]⟩, .string ⟨#[]⟩, .int .i64 0, .int .i64 0, .slice none 0 0, .int .i64 0, .slice none 0 0, .slice none 0 0], .slice none 0 0], []⟩ 8 (by kernel_rfl) (by kernel_rfl) (by kernel_rfl) (by kernel_rfl)) ?_
 intro W base args ds gs before hval0 hW _ hsz _
 have hval : ∀ (j : Nat) t v, Tryz.f7.params[j]? = some t → args[j]? = some v → Value.okWide prog W .any base t v := hval0
 have hW' := hW
 obtain ⟨p, q, hA0, hV, rfl, hfz, _⟩ := hW
 have hA : DataW.TrodAll enc prog W 0 (fun _ => true) true Tryz.f7.params.toList args.toList ds p := hA0
 have hsz : (DataW.weightsEach prog (Tryz.f7.params.toList ++ []) (ds ++ gs)).all (· ≤ reachBytes) = true := hsz
 rw [params7] at hA hval hsz
 obtain ⟨v0, v1, v2, d0, d1, d2, p0, p1, p2, rfl, rfl, rfl, h0, h1, h2⟩ := trodAll_three hA
 obtain ⟨rfl, rfl⟩ := trodVars_none hV
 obtain ⟨n0, aC, esC, cC, e0, hH0, k0⟩ := zKC zGR (by decide) underlying22 (hval 0 22 v0 rfl rfl) h0 (zAQ hsz (j := 0) rfl rfl)
 obtain ⟨n1, xs, e1, hH1, hI1, k1⟩ := zMJ zGR (by decide) (by rw [zQa]; decide) (hval 1 28 v1 rfl rfl) h1 (zAQ hsz (j := 1) rfl rfl)
 obtain ⟨n2, aI, esI, cI, e2, hH2, k2⟩ := zKC zGR (by decide) underlying46 (hval 2 46 v2 rfl rfl) h2 (zAQ hsz (j := 2) rfl rfl)
 rw [ez3] at e2 hH2 k2
 rw [zQc] at e0 hH0 k0
 have c28 : prog.cellsOf 28 = 9 := by kernel_rfl
 rw [c28] at e1 hI1
 obtain ⟨a', es', c', hsl, g, ctx⟩ := zKu k0
 cases hsl
 obtain ⟨t, ht, _⟩ := zMe _ _ k1
 obtain ⟨ns, rfl⟩ := zOX hH2 k2
 have hc := (rh ctx ht ns aC aI cC cI W.heap.size).h (fun _ => False) W rfl (fun _ h => h.elim) (fun p hp => by
  simp only [List.mem_cons, List.not_mem_nil, or_false] at hp
  rcases hp with rfl | rfl | rfl
  ·exact ⟨⟨hH0, fun _ _ => id⟩, rfl⟩
  ·exact ⟨⟨⟨hH1, fun _ _ => id⟩, hI1⟩, rfl⟩
  ·exact ⟨⟨hH2, fun _ _ => id⟩, rfl⟩)
 have hargs : ([PV.sv aC 4 esC cC, .dg 9 (.ag xs), .sv aI 0 (zM ns) cI].map (PV.val [])).toArray = #[v0, v1, v2] := by
  simp only [List.map_cons, List.map_nil, e0, e1, e2]
 rw [hargs] at hc
 refine hc.mono fun e W' hf => ?_
 exact zMp zQ0 zLN (by rw [params7]; decide) rfl (by kernel_rfl) underlying4 rfl hW' (zOP hf)

theorem fnExactResidualFunction_holds : Rows.FnExactResidualFunctionSaid :=
 OpenClaim.holds_of_wide 7 Tryz.f7 rfl rfl rfl rfl rfl rfl rfl ⟨rfl, rfl, rfl, rfl, rfl⟩ rfl rfl rfl rfl rfl (by kernel_rfl) func7 (by kernel_rfl)
  (of_decide_eq_true (by kernel_rfl)) (by unfold Func.isWrapper; first | (rw [if_pos (by decide +kernel)]; kernel_rfl) | (rw [if_neg (by decide +kernel)]; exact ⟨rfl, rfl⟩))
  (fun os started H enc _ => wo os started H enc)

#print axioms fnExactResidualFunction_holds
end Go.Proofs.YtfkmegifjiiclaaGreat
