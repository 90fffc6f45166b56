/- The law FnExactTypeOf: for all data it answers true. -/
import Derived.Test.YtnpjpplbkoammaaGreatDoorVv
import Derived.Test.YtnpjpplbkoammaaGreatDoorWn
import Derived.Test.YtnpjpplbkoammaaGreatDoorKa
import Derived.Test.YtnpjpplbkoammaaGreatDoorWh
import Derived.Test.YtnpjpplbkoammaaGreatDoorKu
import Derived.Test.YtnpjpplbkoammaaGreatDoorYd
import Derived.Test.YtnpjpplbkoammaaGreatDoorYe
set_option linter.unusedVariables false
set_option linter.unusedSimpArgs false
namespace Go.Proofs.YtnpjpplbkoammaaGreatDoor
open Go Go.Proofs Go.Proofs.Tryz Go.IntWalk
theorem Own.tree {N N' : Nat} {d : D} (h : Own N N' d) : Tree d := ⟨h.nd, h.fl⟩
theorem Own.low {N N' M : Nat} {d : D} (h : Own N N' d) (hM : M ≤ N) : Low M d := ⟨fun b hb => Nat.le_trans hM (h.lo b hb)⟩
/-- blocks below a bound and blocks from it on -/
theorem zA6 {N N' : Nat} {d x : D} (h : Own N N' d) (hx : Bel N x) : ∀ b ∈ d.foot, b ∉ x.foot := fun b hb hc => by
 have := h.lo b hb; have := hx b hc; omega
theorem zL9 {N N' M M' : Nat} {d x : D} (h : Own N N' d) (hx : Own M M' x) (hM : N' ≤ M) : ∀ b ∈ d.foot, b ∉ x.foot := fun b hb hc => by
 have := h.hi b hb; have := hx.lo b hc; omega
theorem Bel.mono {N M : Nat} {x : D} (h : Bel N x) (hM : N ≤ M) : Bel M x := fun b hb => Nat.lt_of_lt_of_le (h b hb) hM
theorem zFE (l : List Int) (hl : l.length ≤ 4611686018427387904) (a b : Option Addr) (c c' : Nat) : vn 20 [.sv a 0 (zI l) c, .sv b 0 (zI l) c'] true := fun N Q hQ => by
 have key := up (zI6 l) (by rw [sP]; exact hl) (fun i xs => ∀ (N' : Nat), N ≤ N' → wA Q N a (zI l) c b (zI l) c' i N') ?_ ?_
 ·refine zEY N _ _ _ _ _ _ Q fun _ _ => Br.bne (fun h => absurd rfl h) fun _ => ?_
  exact key N (Nat.le_refl _)
 ·intro i hlt hi N' hN'
  refine t7 _ _ _ _ _ _ _ _ _ _ ?_
  repeat' first|with_reducible intro _|simp only[hlt,Y1,Y2,Y3,Y4]|(with_reducible first|refine X1 ?_ ?_|refine X2 ?_ ?_|refine X3 ?_ ?_|refine X4 ?_ ?_|refine X5 ?_ ?_|refine X6 ?_ ?_|refine X7 ?_ ?_|refine X8 ?_ ?_|refine X9 ?_ ?_)|refine⟨_,_,_,rfl,?_⟩|refine⟨_,rfl,?_⟩|((with_reducible refine And.intro ?_ ?_);·first|omega|trivial|(show _=_;rfl)|((with_reducible refine And.intro ?_ ?_)<;>first|omega|trivial|(show _=_;rfl)))|fail
  exact hQ _ (by omega)
 ·intro i x xs hat _ ih2 N' hN'
  have hb := hat.b
  refine t7 _ _ _ _ _ _ _ _ _ _ ?_
  simp only [hat.lt, hat.w, Int.toNat_natCast, zBC]
  refine ⟨⟨by omega, by omega⟩, x, hat.r, ⟨by omega, by omega⟩, x, hat.r, Br.bne (fun h => absurd rfl h) fun _ => ?_⟩
  exact ih2 _ hN'
def mkI : Nat → Int → List Int
 | 0, _ => []
 | n + 1, k => k :: mkI n (k + 1)
theorem zHN : ∀ (n : Nat) (k : Int), (mkI n k).length = n
 | 0, _ => rfl
 | n + 1, k => by simp [mkI, zHN n]
theorem zKR : ∀ (l : List Int) (done : List Int), (done ++ l).length ≤ 4611686018427387904 →
  ∀ (T : List Nat) (b0 N m c t : Nat) (k : Int) (R : Int → D → Nat → Prop), 0 ≤ k → k + l.length ≤ 2305843009213693952 → ∀ (q N1 : Nat), N ≤ N1 → m = (done ++ l).length →
  (∀ N', N1 ≤ N' → R (k + l.length) (.ag (zI (done ++ mkI l.length k))) N') → yX T b0 R N m c k done.length t (zI (done ++ l)) q N1
 | [], done, hlen, T, b0, N, m, c, t, k, R, hk, hK, q, N1, hN1, hm, hR => by
   rw [List.append_nil] at *
   refine wx _ _ _ _ _ _ _ _ _ _ _ _ (Br.dec (fun hc => by omega) fun _ => ⟨rfl, fun N3 hN3 => ?_⟩)
   have := hR N3 (by omega)
   simpa [mkI] using this
 | s :: ts, done, hlen, T, b0, N, m, c, t, k, R, hk, hK, q, N1, hN1, hm, hR => by
   have hlt : (done.length : Int) < (m : Int) := by rw [hm]; simp; omega
   have hl2 : done.length < (zI (done ++ s :: ts)).length := by simp [zI]
   simp only [List.length_cons] at hK
   refine wx _ _ _ _ _ _ _ _ _ _ _ _ (Br.dec (fun _ => ?_) fun hc => absurd hlt hc)
   rw [i64_in (k + 1) (by omega), i64_in ((done.length : Int) + 1) (by rw [hm] at hlt; simp at hlt hlen; omega)]
   simp only [Int.toNat_natCast, Nat.zero_add]
   refine ⟨⟨by omega, hlt, hl2⟩, hl2, ?_⟩
   have hset : (zI (done ++ s :: ts)).set done.length (.lit (.int .i64 k)) = zI ((done ++ [k]) ++ ts) := by simp [zI]
   rw [hset]
   have := zKR ts (done ++ [k]) (by simpa using hlen) T b0 N m c t (k + 1) R (by omega) (by omega) q N1 (by omega) (by rw [hm]; simp) fun N' h => by
    have := hR N' (by omega)
    simp only [List.length_cons, mkI] at this
    rw [show (k + ((ts.length + 1 : Nat) : Int)) = k + 1 + ts.length by omega] at this
    simpa using this
   simpa using this
theorem zJT (l : List Int) (hl : l.length ≤ 1152921504606846976) (a : Option Addr) (c : Nat) (ht : Tree (.sl a 0 (zI l) c)) (k : Int) (hk : 0 ≤ k) (hk2 : k ≤ 1152921504606846976) (N : Nat) (R : D → Int → Nat → Prop)
  (hR : ∀ N', N ≤ N' → R (.sl a 0 (zI (mkI l.length k)) c) (k + l.length) N') : MC prog 21 (.sl a 0 (zI l) c) k N R := by
 by_cases hne : l = []
 ·subst hne
  refine zLf (zBo N a [] c k _ fun _ => pT _ _ _ _ _ _ _ _ (Br.of (fun hc => ?_) fun _ N2 hN2 => ?_))
  ·simp at hc
  ·simpa [mkI, zI] using hR N2 hN2
 ·have hw : zI l ≠ [] := by simpa [zI] using hne
  cases a with
  | none => exact zHV (by kernel_rfl) hw
  | some ad =>
    refine zCW N ad (zI l) c k R (fun k' x N' => N ≤ N' ∧ x = .ag (zI (mkI l.length k)) ∧ k' = k + l.length) ht hw (by rw [sP]; unfold maxLen; omega) (fun t => ?_) ?_
    ·have := zKR l [] (by simp; omega) (D.sl (some ad) 0 (zI l) c).foot ad.block N (zI l).length c t k (fun k' x N' => N ≤ N' ∧ x = .ag (zI (mkI l.length k)) ∧ k' = k + l.length) hk (by omega) (zI l).length N (Nat.le_refl _) (by simp [zI]) fun N' h => ⟨h, by simp, rfl⟩
     simpa using this
    ·rintro k' x N' ⟨hN', rfl, rfl⟩
     exact ⟨zI (mkI l.length k), rfl, by simp [sP, zHN], by simp [uJ], hR N' hN'⟩
theorem zKf : ∀ (n : Nat) (k : Int) (i : Nat), i < n → (mkI n k)[i]? = some (k + i)
 | n + 1, k, 0, _ => by simp [mkI]
 | n + 1, k, i + 1, h => by
   simp only [mkI, List.getElem?_cons_succ]
   rw [zKf n (k + 1) i (by omega)]
   congr 1; omega
theorem zJL (n : Nat) (k : Int) (hk : 0 ≤ k) (hk2 : k + n ≤ 2305843009213693952) (a : Option Addr) (c : Nat) : zAR 22 [.sv a 0 (zI (mkI n k)) c, .int .i64 k] (k + n) := fun N Q hQ => by
 have hlen : (zI (mkI n k)).length = n := by rw [sP, zHN]
 refine zCX N a _ c k Q fun _ => ?_
 have key : ∀ (m i N' : Nat), N ≤ N' → i + m = n → xB Q N a (zI (mkI n k)) c (k + i) i N' := by
  intro m
  induction m with
  | zero =>
    intro i N' hN' h
    have : i = n := by omega
    subst this
    exact uM _ _ _ _ _ _ _ _ (Br.dec (fun h => by rw [hlen] at h; omega) fun _ N2 hN2 => hQ _ (by omega))
  | succ m ih =>
    intro i N' hN' h
    refine uM _ _ _ _ _ _ _ _ (Br.dec (fun _ => ⟨⟨by omega, by rw [hlen]; omega⟩, k + i, ?_, Br.bne (fun h => absurd rfl h) fun _ => ?_⟩) fun h => absurd (show (i : Int) < ((zI (mkI n k)).length : Nat) by rw [hlen]; omega) h)
    ·rw [Int.toNat_natCast, List.getD_eq_getElem?_getD]
     unfold zI
     rw [List.getElem?_map, zKf n k i (by omega)]
     rfl
    ·rw [i64_in _ (by omega), i64_in _ (by omega)]
     have := ih (i + 1) N' hN' (by omega)
     rw [show (k + ((i + 1 : Nat) : Int)) = k + i + 1 by omega] at this
     simpa using this
 simpa using key n 0 N (Nat.le_refl _) (by omega)
theorem zHR (e : Tm) (fu : Int) : (rg e fu).length ≤ 200 := by
 unfold rg
 split
 ·rename_i h
  have hb : inB fu 0 200 = true := by simp at h; exact h.2
  have hb := y9.1 hb
  have h1 := zBO fu.toNat 0 e
  have key : ∀ (m n : Nat) (x : Tm), (ro m n x).2.length ≤ m := by
   intro m
   induction m with
   | zero => intro n x; simp only [ro]; (repeat' split) <;> simp
   | succ m ih =>
     intro n x
     have := ih (n + 1) (x.stp x.dp).1
     simp only [ro]; (repeat' split) <;> simp <;> omega
  have := key fu.toNat 0 e
  omega
 ·simp
/-- the law FnExactTraceOf: for all data it answers true -/
theorem zHl {t : Tm} {d : D} (he : t.Is d) (n : Int) (N : Nat) :
  ACalls prog 5 [.bool] [.dg 9 d, .int .i64 n] N (fun r _ => r = true) := by
 refine tU N d n _ fun hB1 N4 hN4 => ?_
 refine zMY t d he 1048576 (by omega) (by omega) N4 _ fun r2 N5 hN5 hr2 _ => Br.dec (fun _ N6 _ => rfl) fun hneg2 N7 hN7 => ?_
 obtain ⟨hq0, hq1, hcn⟩ := hr2.resolve_left (by omega)
 have hcn : t.cnt ≤ 3145731 := by omega
 have hcn2 : t.cnt ≤ 1073741824 := by omega
 clear hr2
 refine zA2 t d he hcn2 N7 _ fun d1 N10 hN10 he1 own2 _ _ N11 hN11 => ?_
 have hlo := zHR t n
 have hSpec := zC4 he1 (by omega) n
 have hImpl := fun (d2 : D) (he2 : t.Is d2) => zCp he2 (by omega : t.cnt ≤ 4000000) n
 generalize rg t n = o at hSpec hImpl hlo
 refine hSpec N11 _ fun aw cw N12 hN12 ownw _ hBw N13 hN13 => ?_
 refine zA2 t d he hcn2 N13 _ fun d2 N16 hN16 he2 own4 _ _ N17 hN17 => ?_
 refine hImpl d2 he2 N17 _ fun ag cg N18 hN18 own5 _ _ N19 hN19 => ?_
 refine zFE o (by omega) _ _ _ _ N19 _ fun N20 hN20 _ => Br.of (fun h => by simp at h) fun _ N23 hN23 => ?_
 refine zA2 t d he hcn2 N23 _ fun d4 N29 hN29 he4 _ _ _ N30 hN30 => ?_
 refine zMn t d2 d4 he2 he4 N30 _ fun N31 hN31 _ => Br.of (fun h => by simp at h) fun _ => ?_
 have B1 : ∀ M, N ≤ M → Bel M d := fun M h => hB1.mono h
 have d54 := zL9 own4 own5 (by omega)
 refine ⟨own4.tree, own4.low (by omega), rfl, ⟨fun x hx => ?_⟩, fun N35 hN35 => ?_⟩
 ·simp only [List.mem_cons, List.not_mem_nil, or_false] at hx
  rcases hx with rfl | rfl | rfl
  ·exact zA6 own4 (hBw.mono (by omega))
  ·exact d54
  ·exact zA6 own4 (B1 _ (by omega))
 refine zJC he2 own4.tree 1 (by omega) (by omega) N35 _ fun d6 k6 N36 hN36 hf6 hk6 hk6' _ => Br.dec (fun h => by omega) fun _ N38 hN38 => ?_
 refine zFE o (by omega) _ _ _ _ N38 _ fun N39 hN39 _ => Br.of (fun h => by simp at h) fun _ => ?_
 refine ⟨own5.tree, own5.low (by omega), ⟨fun x hx => ?_⟩, rfl, fun N42 hN42 => ?_⟩
 ·simp only [List.mem_cons, List.not_mem_nil, or_false] at hx
  rcases hx with rfl | rfl | rfl
  ·exact zA6 own5 (hBw.mono (by omega))
  ·exact zA6 own5 (B1 _ (by omega))
  ·rw [hf6]; exact fun b hb hc => d54 b hc hb
 refine zJT o (by omega) ag cg own5.tree 1 (by omega) (by omega) N42 _ fun N43 hN43 _ N44 hN44 => ?_
 have hheld := zJL o.length 1 (by omega) (by omega) ag cg
 refine hheld N44 _ fun N45 hN45 _ => Br.dec (fun h => by omega) fun _ => Br.bne (fun h => absurd rfl h) fun _ N48 hN48 => ?_
 refine zA2 t d he hcn2 N48 _ fun d7 N51 hN51 he7 _ _ _ N52 hN52 => ?_
 refine hImpl d7 he7 N52 _ fun a2 c2 N53 hN53 _ _ _ N54 hN54 => ?_
 refine zFE o (by omega) _ _ _ _ N54 _ fun N55 hN55 _ => Br.of (fun h => by simp at h) fun _ N58 hN58 => ?_
 exact hheld N58 _ fun N59 hN59 _ => Br.dec (fun h => by omega) fun _ => Br.bne (fun h => absurd rfl h) fun _ N62 hN62 => rfl
end Go.Proofs.YtnpjpplbkoammaaGreatDoor
