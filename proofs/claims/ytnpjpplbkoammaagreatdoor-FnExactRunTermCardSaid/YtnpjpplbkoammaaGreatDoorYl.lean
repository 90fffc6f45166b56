/- The law FnExactTypeOf: for all data it answers true. -/
import Derived.Test.YtnpjpplbkoammaaGreatDoorVv
import Derived.Test.YtnpjpplbkoammaaGreatDoorWn
import Derived.Test.YtnpjpplbkoammaaGreatDoorKa
import Derived.Test.YtnpjpplbkoammaaGreatDoorWh
import Derived.Test.YtnpjpplbkoammaaGreatDoorKu
import Derived.Test.YtnpjpplbkoammaaGreatDoorYd
import Derived.Test.YtnpjpplbkoammaaGreatDoorYe
set_option linter.unusedVariables false
set_option linter.unusedSimpArgs false
namespace Go.Proofs.YtnpjpplbkoammaaGreatDoor
open Go Go.Proofs Go.Proofs.Tryz Go.IntWalk
mutual
theorem zMJ : ∀ (t : Ty) (k : Int), (zJp t k).1.cnt = t.cnt
 | .mk kk l, k => by simp only [zJp, Ty.cnt, sA l]
theorem sA : ∀ (l : List Ty) (k : Int), zG (zO l k).1 = zG l
 | [], k => rfl
 | t :: ts, k => by simp only [zO, zG, zMJ t, sA ts]
end
theorem Own.tree {N N' : Nat} {d : D} (h : Own N N' d) : Tree d := ⟨h.nd, h.fl⟩
theorem Own.low {N N' M : Nat} {d : D} (h : Own N N' d) (hM : M ≤ N) : Low M d := ⟨fun b hb => Nat.le_trans hM (h.lo b hb)⟩
/-- blocks below a bound and blocks from it on -/
theorem zA5 {N N' : Nat} {d x : D} (h : Own N N' d) (hx : Bel N x) : ∀ b ∈ d.foot, b ∉ x.foot := fun b hb hc => by
 have := h.lo b hb; have := hx b hc; omega
theorem zMj {N N' M M' : Nat} {d x : D} (h : Own N N' d) (hx : Own M M' x) (hM : N' ≤ M) : ∀ b ∈ d.foot, b ∉ x.foot := fun b hb hc => by
 have := h.hi b hb; have := hx.lo b hc; omega
theorem Bel.mono {N M : Nat} {x : D} (h : Bel N x) (hM : N ≤ M) : Bel M x := fun b hb => Nat.lt_of_lt_of_le (h b hb) hM
theorem zIV (l : List Ty) (k : Int) (es : List D) (a : Option Addr) (c : Nat) (hes : All2 Ty.Is (zO l k).1 es) (hlen : es.length ≤ 4611686018427387904) (h0 : 0 ≤ k) (h1 : k + zG l ≤ 4611686018427387904) : rW 84 [.sv a 2 es c, .int .i64 k] (zO l k).2 := by
 have h := zCK (.mk 0 (zO l k).1) es a c hes hlen k h0 (by simp only [Ty.as, sA]; exact h1)
 simp only [Ty.as, zDz l k h0] at h
 exact h
theorem zF0 : ∀ (t : Tm) (k : Int) (es : List D) (a : Option Addr) (c : Nat), All2 Tm.Is (yU t.as k).1 es → es.length ≤ 4611686018427387904 → 0 ≤ k → k + 4 * zY t.as ≤ 4611686018427387904 → rW 47 [.sv a 9 es c, .int .i64 k] (yU t.as k).2 := by
 refine Tm.ind fun kk nm ot n ty re l ih k es a c hes hlen h0 h1 N Q hQ => ?_
 simp only [Tm.as] at hes hQ h1
 have hl := hes.len
 rw [zGt] at hl
 refine zAS N a es c k Q fun _ => ?_
 have key : ∀ (xs : List Tm) (i : Nat) (m : Int) (N' : Nat), N ≤ N' → (∀ x ∈ xs, x ∈ l) → i + xs.length = es.length → (yU l k).1.drop i = (yU xs m).1 → (yU xs m).2 = (yU l k).2 → 0 ≤ m → m + 4 * zY xs ≤ 4611686018427387904 → yq Q N a es c m i N' := by
  intro xs
  induction xs with
  | nil =>
    intro i m N' hN' _ hi hd hk hm _
    refine vm _ _ _ _ _ _ _ _ (Br.dec (fun h => ?_) fun _ N1 hN1 => ?_)
    ·simp at hi; omega
    ·simp only [yU] at hk; exact Qi (hQ _ (by omega)) hk.symm
  | cons x ts ihx =>
    intro i m N' hN' hmem hi hd hk hm hb
    cases x with
    | mk kx nx ox n_x tyx rex lx =>
    obtain ⟨tk, tl⟩ := tyx
    obtain ⟨rk, rl⟩ := rex
    have hx := ih (.mk kx nx ox n_x (.mk tk tl) (.mk rk rl) lx) (hmem _ (by simp))
    simp only [Tm.as] at hx
    simp only [yU, Ty.as] at hd hk
    simp only [zY, Tm.cnt, Ty.cnt] at hb
    simp only [List.length_cons] at hi
    have hkT := xb tl (m + 1 + 1 + 1 + 1 + 1)
    generalize hT : zO tl (m + 1 + 1 + 1 + 1 + 1) = mT at hd hk hkT
    have hkR := xb rl (mT.2 + 1)
    generalize hR : zO rl (mT.2 + 1) = mR at hd hk hkR
    have hkA := p4 lx mR.2
    generalize hA : yU lx mR.2 = mA at hd hk hkA
    have hg : (yU l k).1[i]? = some (Tm.mk m (uh (m + 1)) (uh (m + 1 + 1)) (m + 1 + 1 + 1) (.mk (m + 1 + 1 + 1 + 1) mT.1) (.mk mT.2 mR.1) mA.1) := by
     have := congrArg (fun u => u[0]?) hd
     simpa using this
    have hr := hes.get hg
    obtain ⟨t0, t1, r0, r1, a2, es2, c2, hd2, hh, hlen2, hes2⟩ := Tm.is_mk.1 hr
    obtain ⟨kT, lT, aT, esT, cT, eT, rfl, rfl, hlenT, hesT⟩ := Ty.is_two hh.ty
    obtain ⟨kR, lR, aR, esR, cR, eR, rfl, rfl, hlenR, hesR⟩ := Ty.is_two hh.re
    injection eT with eT1 eT2
    injection eR with eR1 eR2
    subst eT1; subst eT2; subst eR1; subst eR2
    have hlt : (i : Int) < (es.length : Int) := by omega
    have B : (0 : Int) ≤ (i : Int) ∧ (i : Int) < (es.length : Int) := ⟨by omega, hlt⟩
    refine vm _ _ _ _ _ _ _ _ ?_
    rw [i64_in (m + 1) (by omega), i64_in (m + 1 + 1) (by omega), i64_in (m + 1 + 1 + 1) (by omega), i64_in (m + 1 + 1 + 1 + 1) (by omega), i64_in (m + 1 + 1 + 1 + 1 + 1) (by omega), i64_in ((i : Int) + 1) (by omega)]
    rw [Int.toNat_natCast, hd2]
    refine Br.dec (fun _ => ?_) fun h => absurd hlt h
    refine ⟨B, _, rfl, Br.bne (fun h => absurd rfl h) fun _ => ⟨B, _, rfl, fun N2 hN2 => ?_⟩⟩
    refine uo (m + 1) (by omega) (by omega) N2 _ fun N3 hN3 _ => Br.nstr (fun h => absurd rfl h) fun _ => ⟨B, _, rfl, fun N5 hN5 => ?_⟩
    refine uo (m + 1 + 1) (by omega) (by omega) N5 _ fun N6 hN6 _ => Br.nstr (fun h => absurd rfl h) fun _ => ⟨B, _, rfl, Br.bne (fun h => absurd rfl h) fun _ => ⟨B, _, rfl, Br.bne (fun h => absurd rfl h) fun _ => ⟨B, _, _, _, rfl, fun N10 hN10 => ?_⟩⟩⟩
    have hcT := zIV tl (m + 1 + 1 + 1 + 1 + 1) esT aT cT (by rw [hT]; exact wt hesT) hlenT (by omega) (by omega)
    rw [hT] at hcT
    refine hcT N10 _ fun N11 hN11 _ => Br.dec (fun h => by omega) fun _ => ⟨B, _, rfl, Br.bne (fun h => absurd rfl h) fun _ => ⟨B, _, _, _, rfl, fun N14 hN14 => ?_⟩⟩
    rw [i64_in (mT.2 + 1) (by omega)]
    have hcR := zIV rl (mT.2 + 1) esR aR cR (by rw [hR]; exact wt hesR) hlenR (by omega) (by omega)
    rw [hR] at hcR
    refine hcR N14 _ fun N15 hN15 _ => Br.dec (fun h => by omega) fun _ => ⟨B, _, _, _, rfl, fun N17 hN17 => ?_⟩
    have hcA := hx mR.2 es2 a2 c2 (by rw [hA]; exact hes2) hlen2 (by omega) (by omega)
    rw [hA] at hcA
    refine hcA N17 _ fun N18 hN18 _ => Br.dec (fun h => by omega) fun _ => ?_
    refine ihx (i + 1) mA.2 N18 (by omega) (fun x hx => hmem x (by simp [hx])) (by omega) ?_ hk (by omega) (by omega)
    have := congrArg (List.drop 1) hd
    simpa [List.drop_drop, Nat.add_comm] using this
 exact key l 0 k N (Nat.le_refl _) (fun x h => h) (by omega) (by simp) rfl h0 h1
theorem zHv (t : Tm) (k : Int) (d : D) (hd : (t.mkd k).Is d) (h0 : 0 ≤ k) (h1 : k + 4 * t.cnt ≤ 4611686018427387904) : rW 15 [.dg 9 d, .int .i64 k] (t.mkk k) := fun N Q hQ => by
 obtain ⟨kk, nm, ot, n, ⟨tk, tl⟩, ⟨rk, rl⟩, l⟩ := t
 simp only [Tm.mkd, Tm.mkk, Ty.as, Ty.k] at hd hQ
 simp only [Tm.cnt, Ty.cnt] at h1
 have hkT := xb tl k
 generalize hT : zO tl k = mT at hd hQ hkT
 have hkR := xb rl mT.2
 generalize hR : zO rl mT.2 = mR at hd hQ hkR
 have hkA := p4 l mR.2
 obtain ⟨t0, t1, r0, r1, a2, es2, c2, rfl, hh, hlen2, hes2⟩ := Tm.is_mk.1 hd
 obtain ⟨kT, lT, aT, esT, cT, eT, rfl, rfl, hlenT, hesT⟩ := Ty.is_two hh.ty
 obtain ⟨kR, lR, aR, esR, cR, eR, rfl, rfl, hlenR, hesR⟩ := Ty.is_two hh.re
 injection eT with eT1 eT2
 injection eR with eR1 eR2
 subst eT1; subst eT2; subst eR1; subst eR2
 have hcT : zG mT.1 = zG tl := by rw [← hT]; exact sA tl k
 have hcR : zG mR.1 = zG rl := by rw [← hR]; exact sA rl _
 have hmT : uD mT.1 k = mT.2 := by rw [← hT]; exact zDz tl k h0
 have hmR : uD mR.1 mT.2 = mR.2 := by rw [← hR]; exact zDz rl _ (by omega)
 refine zBC N _ k Q fun _ N1 hN1 => ?_
 have h2 := zDx (kk := tk) (a := aT) (c := cT) hesT hlenT k h0 (by omega)
 rw [hmT] at h2
 refine h2 N1 _ fun N2 hN2 _ => Br.dec (fun h => by omega) fun _ N4 hN4 => ?_
 have h3 := zDx (kk := rk) (a := aR) (c := cR) hesR hlenR mT.2 (by omega) (by omega)
 rw [hmR] at h3
 refine h3 N4 _ fun N5 hN5 _ => Br.dec (fun h => by omega) fun _ => ⟨_, _, _, rfl, fun N7 hN7 => ?_⟩
 refine zF0 (.mk 0 (bytes []) (bytes []) 0 (.mk 0 []) (.mk 0 []) l) mR.2 es2 a2 c2 hes2 hlen2 (by omega) (by simp only [Tm.as]; omega) N7 _ fun N8 hN8 _ => Br.dec (fun h => by simp only [Tm.as] at h; omega) fun _ N10 hN10 => ?_
 exact hQ _ (by omega)
/-- a step of a small term is no great one -/
theorem Rch.cnt {x : Tm} (h : Rch x) (hs : x.sz ≤ 400) : x.cnt ≤ 24400 := by have := zNR x (h.o hs); omega
theorem zIF : ∀ (m n : Nat) (x : Tm), Rch x → (zL7 m n x).1.2.1.cnt ≤ 24400
 | m, n, x, hx => by
   rw [pz]
   split
   ·simp [tm0, Tm.cnt, zY, Ty.cnt, zG]
   ·rename_i hs
    have hc := hx.cnt (by omega)
    split
    ·exact hc
    ·cases m with
     | zero => exact hc
     | succ m =>
       simp only
       split
       ·exact hc
       ·exact zIF m (n + 1) _ (hx.step (by omega))
theorem zHh (e : Tm) (fu : Int) (h : e.cnt ≤ 3145731) : (rV e fu).2.1.cnt ≤ 24400 := by
 unfold rV
 split
 ·rename_i hv
  have hok : e.ok = true := by unfold zBO at hv; simp at hv; exact hv.1.1
  exact zIF _ _ e (Rch.of hok (by omega))
 ·simp [tm0, Tm.cnt, zY, Ty.cnt, zG]
theorem Rs.cells {r : Int × Tm × Nat} {d : D} (h : zJv r d) : ∃ y0 y1 y2 y3 y4 y5 y6 y7 y8, d = .ag [.lit (.int .i64 r.1), y0, y1, y2, y3, y4, y5, y6, y7, y8, .lit (.int .i64 (r.2.2 : Nat))] ∧ r.2.1.Is (.ag [y0, y1, y2, y3, y4, y5, y6, y7, y8]) := by
 obtain ⟨cs, rfl, h⟩ := h
 obtain ⟨s, t, n⟩ := r
 cases t with
 | mk k nm ot n0 ty re l =>
 obtain ⟨t0, t1, r0, r1, a, es, c, he, hh, hlen, hes⟩ := Tm.is_mk.1 h
 injection he with he
 subst he
 exact ⟨_, _, _, _, _, _, _, _, _, rfl, h⟩
theorem pp {r : Int × Tm × Nat} {d e : D} (hd : zJv r d) (he : zJv r e) : vi 25 [.dg 11 d, .dg 11 e] true := fun N Q hQ => by
 obtain ⟨y0, y1, y2, y3, y4, y5, y6, y7, y8, rfl, hy⟩ := Rs.cells hd
 obtain ⟨z0, z1, z2, z3, z4, z5, z6, z7, z8, rfl, hz⟩ := Rs.cells he
 refine zCV N _ _ Q fun _ _ => ⟨_, rfl, _, rfl, Br.bne (fun h => absurd rfl h) fun _ N2 hN2 => ?_⟩
 exact zID r.2.1 _ _ hy hz N2 _ fun N3 hN3 _ => Br.of (fun h => by simp at h) fun _ => ⟨_, rfl, _, rfl, Br.bne (fun h => absurd rfl h) fun _ N6 hN6 => hQ _ (by omega)⟩
theorem zGM {r : Int × Tm × Nat} {d : D} (hd : zJv r d) (ht : Tree d) (k : Int) (hk : 0 ≤ k) (hk2 : k + 4 * r.2.1.cnt ≤ 4611686018427387904) (N : Nat) (R : D → Int → Nat → Prop)
  (hR : ∀ d' N', N ≤ N' → zJv (r.1, r.2.1.mkd k, r.2.2) d' → d'.foot = d.foot → R d' (r.2.1.mkk k) N') : MC prog 26 d k N R := by
 obtain ⟨y0, y1, y2, y3, y4, y5, y6, y7, y8, rfl, hy⟩ := Rs.cells hd
 have hfoot : ∀ cs : List D, zA (.lit (.int .i64 r.1) :: (cs ++ [.lit (.int .i64 (r.2.2 : Nat))])) = zA cs := fun cs => by simp only [zA, D.foot, zC, List.nil_append, List.append_nil]
 have hnd := ht.nd
 have hT : Tree (.ag [y0, y1, y2, y3, y4, y5, y6, y7, y8]) := ⟨by
  have := hfoot [y0, y1, y2, y3, y4, y5, y6, y7, y8]
  simp only [D.foot] at hnd ⊢
  rw [← this]; exact hnd, (sa (u := [y0, y1, y2, y3, y4, y5, y6, y7, y8]) ht.fl.2).1⟩
 have hcell : ∀ c ∈ [y0, y1, y2, y3, y4, y5, y6, y7, y8], c.isCell := by
  generalize r.2.1 = t at hy
  cases t with
  | mk kk nm ot nn ty re la =>
  obtain ⟨t0, t1, r0, r1, aA, esA, cA, he, hh, hlenA, hesA⟩ := Tm.is_mk.1 hy
  obtain ⟨kT, lT, aT, esT, cT, rfl, rfl, rfl, hlenT, hesT⟩ := Ty.is_two hh.ty
  obtain ⟨kR, lR, aR, esR, cR, rfl, rfl, rfl, hlenR, hesR⟩ := Ty.is_two hh.re
  injection he with he
  rw [he]
  intro c hc
  simp only [List.mem_cons, List.not_mem_nil, or_false] at hc
  rcases hc with rfl | rfl | rfl | rfl | rfl | rfl | rfl | rfl | rfl <;> first | rfl | trivial
 refine p3 N _ k R (fun k' x N' => N ≤ N' ∧ ∃ cs, x = .ag (.lit (.int .i64 r.1) :: (cs ++ [.lit (.int .i64 (r.2.2 : Nat))])) ∧ (r.2.1.mkd k).Is (.ag cs) ∧ zA cs = zA [y0, y1, y2, y3, y4, y5, y6, y7, y8] ∧ cs.map D.cv = [y0, y1, y2, y3, y4, y5, y6, y7, y8].map D.cv ∧ k' = r.2.1.mkk k)
  ⟨_, rfl, rfl, ?_⟩ ⟨hT, ⟨fun b hb => ?_⟩, by simp [D.cells], rfl, ⟨by simpa only [D.foot, D.cells] using hnd⟩, ⟨by simp⟩, fun N1 hN1 => ?_⟩ ?_
 ·intro c hc
  rcases List.mem_cons.1 hc with rfl | hc
  ·rfl
  ·rcases List.mem_append.1 (show c ∈ [y0, y1, y2, y3, y4, y5, y6, y7, y8] ++ [.lit (.int .i64 (r.2.2 : Nat))] from hc) with hc | hc
   ·exact hcell c hc
   ·rw [List.mem_singleton] at hc; subst hc; rfl
 ·have := hfoot [y0, y1, y2, y3, y4, y5, y6, y7, y8]
  simp only [D.foot] at hb ⊢
  exact this ▸ hb
 ·refine zCF hy hT k hk hk2 N1 _ fun d' N2 hN2 hd' hf hcv _ N3 hN3 => ?_
  generalize hmk : r.2.1.mkd k = z at hd' ⊢
  cases z with
  | mk kk nm ot nn ty re la =>
  obtain ⟨t0, t1, r0, r1, aA, esA, cA, rfl, hh, hlenA, hesA⟩ := Tm.is_mk.1 hd'
  refine ⟨by omega, [_, _, _, _, _, _, _, _, _], rfl, hd', ?_, hcv, rfl⟩
  simpa only [D.foot] using hf
 ·rintro k' x N' ⟨hN', cs, rfl, h1, h2, h3, rfl⟩
  have hf : zA (.lit (.int .i64 r.1) :: (cs ++ [.lit (.int .i64 (r.2.2 : Nat))])) = zA (.lit (.int .i64 r.1) :: ([y0, y1, y2, y3, y4, y5, y6, y7, y8] ++ [.lit (.int .i64 (r.2.2 : Nat))])) := by rw [hfoot, hfoot, h2]
  refine ⟨_, rfl, ?_, hf, hR _ N' hN' ⟨cs, rfl, h1⟩ (by simp only [D.foot]; exact hf)⟩
  simp only [List.map_cons, List.map_append, List.map_nil] at h3 ⊢
  rw [h3]; rfl
theorem zGb {r : Int × Tm × Nat} (k : Int) {d : D} (hd : zJv (r.1, r.2.1.mkd k, r.2.2) d) (h0 : 0 ≤ k) (h1 : k + 4 * r.2.1.cnt ≤ 4611686018427387904) : rW 27 [.dg 11 d, .int .i64 k] (r.2.1.mkk k) := fun N Q hQ => by
 obtain ⟨y0, y1, y2, y3, y4, y5, y6, y7, y8, rfl, hy⟩ := Rs.cells hd
 have hk := r.2.1.mkk_k k
 refine pR N _ k Q fun _ N1 hN1 => ?_
 exact zHv r.2.1 k _ hy h0 h1 N1 _ fun N2 hN2 _ => Br.dec (fun h => by omega) fun _ N4 hN4 => hQ _ (by omega)
/-- the law FnExactRunTerm: for all data it answers true -/
theorem zH1 {t : Tm} {d : D} (he : t.Is d) (n : Int) (N : Nat) :
  ACalls prog 6 [.bool] [.dg 9 d, .int .i64 n] N (fun r _ => r = true) := by
 refine sC N d n _ fun hB1 N4 hN4 => ?_
 refine zMV t d he 1048576 (by omega) (by omega) N4 _ fun r2 N5 hN5 hr2 _ => Br.dec (fun _ N6 _ => rfl) fun hneg2 N7 hN7 => ?_
 obtain ⟨hq0, hq1, hcn⟩ := hr2.resolve_left (by omega)
 have hcn : t.cnt ≤ 3145731 := by omega
 have hcn2 : t.cnt ≤ 1073741824 := by omega
 clear hr2
 refine zAz t d he hcn2 N7 _ fun d1 N10 hN10 he1 own2 _ _ N11 hN11 => ?_
 have hoc := zHh t n hcn
 have hSpec := zCp he1 (by omega) n
 have hImpl := fun (d2 : D) (he2 : t.Is d2) => zDV he2 (by omega : t.cnt ≤ 4000000) n
 generalize rV t n = o at hSpec hImpl hoc
 refine hSpec N11 _ fun w0 N12 hN12 hw0 _ hBw N13 hN13 => ?_
 refine zAz t d he hcn2 N13 _ fun d2 N16 hN16 he2 own4 _ _ N17 hN17 => ?_
 refine hImpl d2 he2 N17 _ fun g0 N18 hN18 hg0 own5 _ _ N19 hN19 => ?_
 refine pp hg0 hw0 N19 _ fun N20 hN20 _ => Br.of (fun h => by simp at h) fun _ N23 hN23 => ?_
 refine zAz t d he hcn2 N23 _ fun d4 N29 hN29 he4 _ _ _ N30 hN30 => ?_
 refine zID t d2 d4 he2 he4 N30 _ fun N31 hN31 _ => Br.of (fun h => by simp at h) fun _ => ?_
 have B1 : ∀ M, N ≤ M → Bel M d := fun M h => hB1.mono h
 have d54 := zMj own4 own5 (by omega)
 refine ⟨own4.tree, own4.low (by omega), rfl, ⟨fun x hx => ?_⟩, fun N35 hN35 => ?_⟩
 ·simp only [List.mem_cons, List.not_mem_nil, or_false] at hx
  rcases hx with rfl | rfl | rfl
  ·exact zA5 own4 (B1 _ (by omega))
  ·exact zA5 own4 (hBw.mono (by omega))
  ·exact d54
 refine zJn he2 own4.tree 1 (by omega) (by omega) N35 _ fun d6 k6 N36 hN36 hf6 hk6 hk6' _ => Br.dec (fun h => by omega) fun _ N38 hN38 => ?_
 refine pp hg0 hw0 N38 _ fun N39 hN39 _ => Br.of (fun h => by simp at h) fun _ => ?_
 refine ⟨own5.tree, own5.low (by omega), rfl, ⟨fun x hx => ?_⟩, fun N42 hN42 => ?_⟩
 ·simp only [List.mem_cons, List.not_mem_nil, or_false] at hx
  rcases hx with rfl | rfl | rfl
  ·exact zA5 own5 (B1 _ (by omega))
  ·exact zA5 own5 (hBw.mono (by omega))
  ·rw [hf6]; exact fun b hb hc => d54 b hc hb
 refine zGM hg0 own5.tree 1 (by omega) (by omega) N42 _ fun g1 N43 hN43 hg1 hfg _ N44 hN44 => ?_
 have hkk := o.2.1.mkk_k 1
 have hheld := zGb 1 hg1 (by omega) (by omega)
 refine hheld N44 _ fun N45 hN45 _ => Br.dec (fun h => by omega) fun _ => Br.bne (fun h => absurd rfl h) fun _ N48 hN48 => ?_
 refine zAz t d he hcn2 N48 _ fun d7 N51 hN51 he7 _ _ _ N52 hN52 => ?_
 refine hImpl d7 he7 N52 _ fun g2 N53 hN53 hg2 _ _ _ N54 hN54 => ?_
 refine pp hg2 hw0 N54 _ fun N55 hN55 _ => Br.of (fun h => by simp at h) fun _ N58 hN58 => ?_
 exact hheld N58 _ fun N59 hN59 _ => Br.dec (fun h => by omega) fun _ => Br.bne (fun h => absurd rfl h) fun _ N62 hN62 => rfl
end Go.Proofs.YtnpjpplbkoammaaGreatDoor
