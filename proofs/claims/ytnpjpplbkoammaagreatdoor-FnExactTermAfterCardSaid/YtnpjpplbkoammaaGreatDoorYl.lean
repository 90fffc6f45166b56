/- The law FnExactTypeOf: for all data it answers true. -/
import Derived.Test.YtnpjpplbkoammaaGreatDoorVv
import Derived.Test.YtnpjpplbkoammaaGreatDoorWn
import Derived.Test.YtnpjpplbkoammaaGreatDoorKa
import Derived.Test.YtnpjpplbkoammaaGreatDoorWh
import Derived.Test.YtnpjpplbkoammaaGreatDoorKu
import Derived.Test.YtnpjpplbkoammaaGreatDoorYd
import Derived.Test.YtnpjpplbkoammaaGreatDoorYe
set_option linter.unusedVariables false
set_option linter.unusedSimpArgs false
namespace Go.Proofs.YtnpjpplbkoammaaGreatDoor
open Go Go.Proofs Go.Proofs.Tryz Go.IntWalk
mutual
theorem zMj : ∀ (t : Ty) (k : Int), (zIs t k).1.cnt = t.cnt
 | .mk kk l, k => by simp only [zIs, Ty.cnt, tg l]
theorem tg : ∀ (l : List Ty) (k : Int), zG (zO l k).1 = zG l
 | [], k => rfl
 | t :: ts, k => by simp only [zO, zG, zMj t, tg ts]
end
theorem Own.tree {N N' : Nat} {d : D} (h : Own N N' d) : Tree d := ⟨h.nd, h.fl⟩
theorem Own.low {N N' M : Nat} {d : D} (h : Own N N' d) (hM : M ≤ N) : Low M d := ⟨fun b hb => Nat.le_trans hM (h.lo b hb)⟩
/-- blocks below a bound and blocks from it on -/
theorem zA1 {N N' : Nat} {d x : D} (h : Own N N' d) (hx : Bel N x) : ∀ b ∈ d.foot, b ∉ x.foot := fun b hb hc => by
 have := h.lo b hb; have := hx b hc; omega
theorem zMN {N N' M M' : Nat} {d x : D} (h : Own N N' d) (hx : Own M M' x) (hM : N' ≤ M) : ∀ b ∈ d.foot, b ∉ x.foot := fun b hb hc => by
 have := h.hi b hb; have := hx.lo b hc; omega
theorem Bel.mono {N M : Nat} {x : D} (h : Bel N x) (hM : N ≤ M) : Bel M x := fun b hb => Nat.lt_of_lt_of_le (h b hb) hM
theorem zIb (l : List Ty) (k : Int) (es : List D) (a : Option Addr) (c : Nat) (hes : All2 Ty.Is (zO l k).1 es) (hlen : es.length ≤ 4611686018427387904) (h0 : 0 ≤ k) (h1 : k + zG l ≤ 4611686018427387904) : ra 84 [.sv a 2 es c, .int .i64 k] (zO l k).2 := by
 have h := zCB (.mk 0 (zO l k).1) es a c hes hlen k h0 (by simp only [Ty.as, tg]; exact h1)
 simp only [Ty.as, zDj l k h0] at h
 exact h
theorem zGR : ∀ (t : Tm) (k : Int) (es : List D) (a : Option Addr) (c : Nat), All2 Tm.Is (yT t.as k).1 es → es.length ≤ 4611686018427387904 → 0 ≤ k → k + 4 * zH t.as ≤ 4611686018427387904 → ra 47 [.sv a 9 es c, .int .i64 k] (yT t.as k).2 := by
 refine Tm.ind fun kk nm ot n ty re l ih k es a c hes hlen h0 h1 N Q hQ => ?_
 simp only [Tm.as] at hes hQ h1
 have hl := hes.len
 rw [zFc] at hl
 refine zAl N a es c k Q fun _ => ?_
 have key : ∀ (xs : List Tm) (i : Nat) (m : Int) (N' : Nat), N ≤ N' → (∀ x ∈ xs, x ∈ l) → i + xs.length = es.length → (yT l k).1.drop i = (yT xs m).1 → (yT xs m).2 = (yT l k).2 → 0 ≤ m → m + 4 * zH xs ≤ 4611686018427387904 → yr Q N a es c m i N' := by
  intro xs
  induction xs with
  | nil =>
    intro i m N' hN' _ hi hd hk hm _
    refine v8 _ _ _ _ _ _ _ _ (Br.dec (fun h => ?_) fun _ N1 hN1 => ?_)
    ·simp at hi; omega
    ·simp only [yT] at hk; exact Qi (hQ _ (by omega)) hk.symm
  | cons x ts ihx =>
    intro i m N' hN' hmem hi hd hk hm hb
    cases x with
    | mk kx nx ox n_x tyx rex lx =>
    obtain ⟨tk, tl⟩ := tyx
    obtain ⟨rk, rl⟩ := rex
    have hx := ih (.mk kx nx ox n_x (.mk tk tl) (.mk rk rl) lx) (hmem _ (by simp))
    simp only [Tm.as] at hx
    simp only [yT, Ty.as] at hd hk
    simp only [zH, Tm.cnt, Ty.cnt] at hb
    simp only [List.length_cons] at hi
    have hkT := xa tl (m + 1 + 1 + 1 + 1 + 1)
    generalize hT : zO tl (m + 1 + 1 + 1 + 1 + 1) = mT at hd hk hkT
    have hkR := xa rl (mT.2 + 1)
    generalize hR : zO rl (mT.2 + 1) = mR at hd hk hkR
    have hkA := pI lx mR.2
    generalize hA : yT lx mR.2 = mA at hd hk hkA
    have hg : (yT l k).1[i]? = some (Tm.mk m (uX (m + 1)) (uX (m + 1 + 1)) (m + 1 + 1 + 1) (.mk (m + 1 + 1 + 1 + 1) mT.1) (.mk mT.2 mR.1) mA.1) := by
     have := congrArg (fun u => u[0]?) hd
     simpa using this
    have hr := hes.get hg
    obtain ⟨t0, t1, r0, r1, a2, es2, c2, hd2, hh, hlen2, hes2⟩ := Tm.is_mk.1 hr
    obtain ⟨kT, lT, aT, esT, cT, eT, rfl, rfl, hlenT, hesT⟩ := Ty.is_two hh.ty
    obtain ⟨kR, lR, aR, esR, cR, eR, rfl, rfl, hlenR, hesR⟩ := Ty.is_two hh.re
    injection eT with eT1 eT2
    injection eR with eR1 eR2
    subst eT1; subst eT2; subst eR1; subst eR2
    have hlt : (i : Int) < (es.length : Int) := by omega
    have B : (0 : Int) ≤ (i : Int) ∧ (i : Int) < (es.length : Int) := ⟨by omega, hlt⟩
    refine v8 _ _ _ _ _ _ _ _ ?_
    rw [i64_in (m + 1) (by omega), i64_in (m + 1 + 1) (by omega), i64_in (m + 1 + 1 + 1) (by omega), i64_in (m + 1 + 1 + 1 + 1) (by omega), i64_in (m + 1 + 1 + 1 + 1 + 1) (by omega), i64_in ((i : Int) + 1) (by omega)]
    rw [Int.toNat_natCast, hd2]
    refine Br.dec (fun _ => ?_) fun h => absurd hlt h
    refine ⟨B, _, rfl, Br.bne (fun h => absurd rfl h) fun _ => ⟨B, _, rfl, fun N2 hN2 => ?_⟩⟩
    refine uo (m + 1) (by omega) (by omega) N2 _ fun N3 hN3 _ => Br.nstr (fun h => absurd rfl h) fun _ => ⟨B, _, rfl, fun N5 hN5 => ?_⟩
    refine uo (m + 1 + 1) (by omega) (by omega) N5 _ fun N6 hN6 _ => Br.nstr (fun h => absurd rfl h) fun _ => ⟨B, _, rfl, Br.bne (fun h => absurd rfl h) fun _ => ⟨B, _, rfl, Br.bne (fun h => absurd rfl h) fun _ => ⟨B, _, _, _, rfl, fun N10 hN10 => ?_⟩⟩⟩
    have hcT := zIb tl (m + 1 + 1 + 1 + 1 + 1) esT aT cT (by rw [hT]; exact ws hesT) hlenT (by omega) (by omega)
    rw [hT] at hcT
    refine hcT N10 _ fun N11 hN11 _ => Br.dec (fun h => by omega) fun _ => ⟨B, _, rfl, Br.bne (fun h => absurd rfl h) fun _ => ⟨B, _, _, _, rfl, fun N14 hN14 => ?_⟩⟩
    rw [i64_in (mT.2 + 1) (by omega)]
    have hcR := zIb rl (mT.2 + 1) esR aR cR (by rw [hR]; exact ws hesR) hlenR (by omega) (by omega)
    rw [hR] at hcR
    refine hcR N14 _ fun N15 hN15 _ => Br.dec (fun h => by omega) fun _ => ⟨B, _, _, _, rfl, fun N17 hN17 => ?_⟩
    have hcA := hx mR.2 es2 a2 c2 (by rw [hA]; exact hes2) hlen2 (by omega) (by omega)
    rw [hA] at hcA
    refine hcA N17 _ fun N18 hN18 _ => Br.dec (fun h => by omega) fun _ => ?_
    refine ihx (i + 1) mA.2 N18 (by omega) (fun x hx => hmem x (by simp [hx])) (by omega) ?_ hk (by omega) (by omega)
    have := congrArg (List.drop 1) hd
    simpa [List.drop_drop, Nat.add_comm] using this
 exact key l 0 k N (Nat.le_refl _) (fun x h => h) (by omega) (by simp) rfl h0 h1
theorem zHt (t : Tm) (k : Int) (d : D) (hd : (t.mkd k).Is d) (h0 : 0 ≤ k) (h1 : k + 4 * t.cnt ≤ 4611686018427387904) : ra 15 [.dg 9 d, .int .i64 k] (t.mkk k) := fun N Q hQ => by
 obtain ⟨kk, nm, ot, n, ⟨tk, tl⟩, ⟨rk, rl⟩, l⟩ := t
 simp only [Tm.mkd, Tm.mkk, Ty.as, Ty.k] at hd hQ
 simp only [Tm.cnt, Ty.cnt] at h1
 have hkT := xa tl k
 generalize hT : zO tl k = mT at hd hQ hkT
 have hkR := xa rl mT.2
 generalize hR : zO rl mT.2 = mR at hd hQ hkR
 have hkA := pI l mR.2
 obtain ⟨t0, t1, r0, r1, a2, es2, c2, rfl, hh, hlen2, hes2⟩ := Tm.is_mk.1 hd
 obtain ⟨kT, lT, aT, esT, cT, eT, rfl, rfl, hlenT, hesT⟩ := Ty.is_two hh.ty
 obtain ⟨kR, lR, aR, esR, cR, eR, rfl, rfl, hlenR, hesR⟩ := Ty.is_two hh.re
 injection eT with eT1 eT2
 injection eR with eR1 eR2
 subst eT1; subst eT2; subst eR1; subst eR2
 have hcT : zG mT.1 = zG tl := by rw [← hT]; exact tg tl k
 have hcR : zG mR.1 = zG rl := by rw [← hR]; exact tg rl _
 have hmT : uE mT.1 k = mT.2 := by rw [← hT]; exact zDj tl k h0
 have hmR : uE mR.1 mT.2 = mR.2 := by rw [← hR]; exact zDj rl _ (by omega)
 refine zCW N _ k Q fun _ N1 hN1 => ?_
 have h2 := zDw (kk := tk) (a := aT) (c := cT) hesT hlenT k h0 (by omega)
 rw [hmT] at h2
 refine h2 N1 _ fun N2 hN2 _ => Br.dec (fun h => by omega) fun _ N4 hN4 => ?_
 have h3 := zDw (kk := rk) (a := aR) (c := cR) hesR hlenR mT.2 (by omega) (by omega)
 rw [hmR] at h3
 refine h3 N4 _ fun N5 hN5 _ => Br.dec (fun h => by omega) fun _ => ⟨_, _, _, rfl, fun N7 hN7 => ?_⟩
 refine zGR (.mk 0 (bytes []) (bytes []) 0 (.mk 0 []) (.mk 0 []) l) mR.2 es2 a2 c2 hes2 hlen2 (by omega) (by simp only [Tm.as]; omega) N7 _ fun N8 hN8 _ => Br.dec (fun h => by simp only [Tm.as] at h; omega) fun _ N10 hN10 => ?_
 exact hQ _ (by omega)
/-- a step of a small term is no great one -/
theorem Rch.cnt {x : Tm} (h : Rch x) (hs : x.sz ≤ 400) : x.cnt ≤ 24400 := by have := zM5 x (h.o hs); omega
theorem Rch.stp_cnt {x : Tm} (h : Rch x) (hs : x.sz ≤ 400) : (x.stp x.dp).1.cnt ≤ 1100020000000100000 := by
 have h1 := h.cnt hs
 have := Go.Proofs.YtnpjpplbkoammaaGreatDoor.stp_cnt x.dp x (by omega)
 omega
theorem zDr : ∀ (m : Nat) (x : Tm), Rch x → x.cnt ≤ 1100020000000100000 → (rR m x).cnt ≤ 1100020000000100000
 | 0, x, _, h => h
 | m + 1, x, hx, h => by
   simp only [rR]
   split
   ·exact h
   ·split
    ·exact h
    ·exact zDr m _ (hx.step (by omega)) (hx.stp_cnt (by omega))
theorem zFN (e : Tm) (n : Int) (h : e.cnt ≤ 3145731) : (vL e n).cnt ≤ 1100020000000100000 := by
 unfold vL
 split
 ·rename_i hv
  have hok : e.ok = true := by unfold zCA at hv; simp at hv; exact hv.1
  exact zDr _ e (Rch.of hok (by omega)) (by omega)
 ·omega
/-- the law FnExactTermAfter: for all data it answers true -/
theorem zEx {t : Tm} {d : D} (he : t.Is d) (n : Int) (N : Nat) :
  ACalls prog 4 [.bool] [.dg 9 d, .int .i64 n] N (fun r _ => r = true) := by
 refine ut N d n _ fun hB1 N4 hN4 => ?_
 refine zMa t d he 1048576 (by omega) (by omega) N4 _ fun r2 N5 hN5 hr2 _ => Br.dec (fun _ N6 _ => rfl) fun hneg2 N7 hN7 => ?_
 obtain ⟨hq0, hq1, hcn⟩ := hr2.resolve_left (by omega)
 have hcn : t.cnt ≤ 3145731 := by omega
 have hcn2 : t.cnt ≤ 1073741824 := by omega
 clear hr2
 refine zAq t d he hcn2 N7 _ fun d1 N10 hN10 he1 own2 _ _ N11 hN11 => ?_
 have hoc := zFN t n hcn
 have hSpec := zAh he1 (by omega) n
 have hImpl := fun (d2 : D) (he2 : t.Is d2) => zAW he2 (by omega : t.cnt ≤ 4000000) n
 generalize vL t n = o at hSpec hImpl hoc
 refine hSpec N11 _ fun w0 N12 hN12 hw0 _ hBw N13 hN13 => ?_
 refine zAq t d he hcn2 N13 _ fun d2 N16 hN16 he2 own4 _ _ N17 hN17 => ?_
 refine hImpl d2 he2 N17 _ fun g0 N18 hN18 hg0 own5 _ _ N19 hN19 => ?_
 refine zAr o g0 w0 hg0 hw0 N19 _ fun N20 hN20 _ => Br.of (fun h => by simp at h) fun _ N23 hN23 => ?_
 refine zAq t d he hcn2 N23 _ fun d4 N29 hN29 he4 _ _ _ N30 hN30 => ?_
 refine zAr t d2 d4 he2 he4 N30 _ fun N31 hN31 _ => Br.of (fun h => by simp at h) fun _ => ?_
 have B1 : ∀ M, N ≤ M → Bel M d := fun M h => hB1.mono h
 have d54 := zMN own4 own5 (by omega)
 refine ⟨own4.tree, own4.low (by omega), rfl, ⟨fun x hx => ?_⟩, fun N35 hN35 => ?_⟩
 ·simp only [List.mem_cons, List.not_mem_nil, or_false] at hx
  rcases hx with rfl | rfl | rfl
  ·exact zA1 own4 (B1 _ (by omega))
  ·exact zA1 own4 (hBw.mono (by omega))
  ·exact d54
 refine zJQ he2 own4.tree 1 (by omega) (by omega) N35 _ fun d6 k6 N36 hN36 hf6 hk6 hk6' _ => Br.dec (fun h => by omega) fun _ N38 hN38 => ?_
 refine zAr o g0 w0 hg0 hw0 N38 _ fun N39 hN39 _ => Br.of (fun h => by simp at h) fun _ => ?_
 refine ⟨own5.tree, own5.low (by omega), rfl, ⟨fun x hx => ?_⟩, fun N42 hN42 => ?_⟩
 ·simp only [List.mem_cons, List.not_mem_nil, or_false] at hx
  rcases hx with rfl | rfl | rfl
  ·exact zA1 own5 (B1 _ (by omega))
  ·exact zA1 own5 (hBw.mono (by omega))
  ·rw [hf6]; exact fun b hb hc => d54 b hc hb
 refine zB0 hg0 own5.tree 1 (by omega) (by omega) N42 _ fun g1 N43 hN43 hg1 hfg _ N44 hN44 => ?_
 have hkk := o.mkk_k 1
 have hheld := zHt o 1 g1 hg1 (by omega) (by omega)
 refine hheld N44 _ fun N45 hN45 _ => Br.dec (fun h => by omega) fun _ => Br.bne (fun h => absurd rfl h) fun _ N48 hN48 => ?_
 refine zAq t d he hcn2 N48 _ fun d7 N51 hN51 he7 _ _ _ N52 hN52 => ?_
 refine hImpl d7 he7 N52 _ fun g2 N53 hN53 hg2 _ _ _ N54 hN54 => ?_
 refine zAr o g2 w0 hg2 hw0 N54 _ fun N55 hN55 _ => Br.of (fun h => by simp at h) fun _ N58 hN58 => ?_
 exact hheld N58 _ fun N59 hN59 _ => Br.dec (fun h => by omega) fun _ => Br.bne (fun h => absurd rfl h) fun _ N62 hN62 => rfl
end Go.Proofs.YtnpjpplbkoammaaGreatDoor
