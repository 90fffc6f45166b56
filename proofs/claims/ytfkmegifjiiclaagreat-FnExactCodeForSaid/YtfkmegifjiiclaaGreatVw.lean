/- The laws' equality on the same data, and their marks on terms and contexts. -/
import Derived.Test.YtfkmegifjiiclaaGreatVv
set_option linter.unusedVariables false
set_option linter.unusedSimpArgs false
namespace Go.Proofs.YtfkmegifjiiclaaGreat
open Go Go.Proofs Go.Proofs.Tryz Go.IntWalk

theorem c_eqT_same (t : Ty) (d e : D) (hd : t.Is d) (he : t.Is e) : RetB 48 [.dg 2 d, .dg 2 e] true := fun N Q hQ => c_eqType t t d e hd he N Q fun N' h => Qb (hQ N' h) ((tyEq_iff t t).2 rfl).symm
theorem c_eqTerm : ∀ (t : Tm) (d e : D), t.Is d → t.Is e → RetB 15 [.dg 9 d, .dg 9 e] true := by
 refine Tm.ind fun k nm ot m ty re l ih d e hd he N Q hQ => ?_
 obtain ⟨t0, t1, r0, r1, a, es, c, rfl, hh, hlen, hes⟩ := Tm.is_mk.1 hd
 obtain ⟨u0, u1, v0, v1, b, fs, c', rfl, hh', hlen', hfs⟩ := Tm.is_mk.1 he
 have hl := hes.len
 have hl' := hfs.len
 have hS : RetB 33 [.sv a 9 es c, .sv b 9 fs c'] true := fun N Q hQ => by
  have key := up hes hlen (fun i xs => ∀ (N' : Nat), N ≤ N' → L_laws_eqTermS_4 Q N a es c b fs c' i N') ?_ ?_
  ·refine w_laws_eqTermS N _ _ _ _ _ _ Q fun _ _ => ?_
   repeat' first|with_reducible intro _|simp only[Y1,Y2,Y3,Y4]|(with_reducible first|refine X1 ?_ ?_|refine X2 ?_ ?_|refine X3 ?_ ?_|refine X4 ?_ ?_|refine X5 ?_ ?_|refine X6 ?_ ?_|refine X7 ?_ ?_|refine X8 ?_ ?_|refine X9 ?_ ?_)|refine⟨_,_,_,rfl,?_⟩|refine⟨_,rfl,?_⟩|((with_reducible refine And.intro ?_ ?_);·first|omega|trivial|(show _=_;rfl)|((with_reducible refine And.intro ?_ ?_)<;>first|omega|trivial|(show _=_;rfl)))|fail
   ·omega
   ·exact key N (Nat.le_refl _)
  ·intro i hlt hi N' hN'
   refine l_laws_eqTermS_4 _ _ _ _ _ _ _ _ _ _ ?_
   repeat' first|with_reducible intro _|simp only[hlt,Y1,Y2,Y3,Y4]|(with_reducible first|refine X1 ?_ ?_|refine X2 ?_ ?_|refine X3 ?_ ?_|refine X4 ?_ ?_|refine X5 ?_ ?_|refine X6 ?_ ?_|refine X7 ?_ ?_|refine X8 ?_ ?_|refine X9 ?_ ?_)|refine⟨_,_,_,rfl,?_⟩|refine⟨_,rfl,?_⟩|((with_reducible refine And.intro ?_ ?_);·first|omega|trivial|(show _=_;rfl)|((with_reducible refine And.intro ?_ ?_)<;>first|omega|trivial|(show _=_;rfl)))|fail
   exact hQ _ (by omega)
  ·intro i x xs hat _ ih2 N' hN'
   have hb := hat.b
   refine l_laws_eqTermS_4 _ _ _ _ _ _ _ _ _ _ ?_
   repeat' first|with_reducible intro _|simp only[hat.lt, hat.w, Int.toNat_natCast,Y1,Y2,Y3,Y4]|(with_reducible first|refine X1 ?_ ?_|refine X2 ?_ ?_|refine X3 ?_ ?_|refine X4 ?_ ?_|refine X5 ?_ ?_|refine X6 ?_ ?_|refine X7 ?_ ?_|refine X8 ?_ ?_|refine X9 ?_ ?_)|refine⟨_,_,_,rfl,?_⟩|refine⟨_,rfl,?_⟩|((with_reducible refine And.intro ?_ ?_);·first|omega|trivial|(show _=_;rfl)|((with_reducible refine And.intro ?_ ?_)<;>first|omega|trivial|(show _=_;rfl)))|refine (ih x hat.m _ _ hat.r (hfs.get hat.g)) _ _ ?_|fail
   exact ih2 _ (by omega)
 refine w_laws_eqTerm N _ _ Q fun _ _ => ?_
 repeat' first|with_reducible intro _|simp only[Y1,Y2,Y3,Y4]|(with_reducible first|refine X1 ?_ ?_|refine X2 ?_ ?_|refine X3 ?_ ?_|refine X4 ?_ ?_|refine X5 ?_ ?_|refine X6 ?_ ?_|refine X7 ?_ ?_|refine X8 ?_ ?_|refine X9 ?_ ?_)|refine⟨_,_,_,rfl,?_⟩|refine⟨_,rfl,?_⟩|((with_reducible refine And.intro ?_ ?_);·first|omega|trivial|(show _=_;rfl)|((with_reducible refine And.intro ?_ ?_)<;>first|omega|trivial|(show _=_;rfl)))|refine (c_eqT_same _ _ _ hh.ty hh'.ty) _ _ ?_|refine (c_eqT_same _ _ _ hh.re hh'.re) _ _ ?_|refine hS _ _ ?_|fail
 all_goals first | exact absurd rfl (by assumption) | skip
 all_goals exact hQ _ (by omega)

theorem c_markText (k : Int) (h0 : 0 ≤ k) (h1 : k ≤ 2305843009213693952) : ∀ (N : Nat) (Q : QT [.str]), (∀ s N', N ≤ N' → Q s N') → ACalls prog 50 [.str] [.int .i64 k] N Q := fun N Q hQ => by
 have key : ∀ (n : Nat) (k : Int) (s : ByteArray) (N' : Nat), k.toNat ≤ n → 0 ≤ k → (s.size : Int) + k ≤ 2305843009213693952 → N ≤ N' → L_laws_markText_4 Q N k s N' := by
  intro n
  induction n with
  | zero =>
    intro k s N' hn hk hs hN'
    refine l_laws_markText_4 _ _ _ _ _ (Br.dec (fun h => ?_) fun _ => ⟨by omega, fun N1 hN1 => hQ _ _ (by omega)⟩)
    omega
  | succ n ih =>
    intro k s N' hn hk hs hN'
    refine l_laws_markText_4 _ _ _ _ _ (Br.dec (fun h => ?_) fun _ => ⟨by omega, fun N1 hN1 => hQ _ _ (by omega)⟩)
    have hd : Int.tdiv k 10 = k / 10 := Int.tdiv_eq_ediv_of_nonneg hk
    refine ⟨by decide, by simp, [_], rfl, ?_, by decide, ?_⟩
    ·show 1 + s.size ≤ _
     omega
    ·rw [hd, i64_in _ (by omega)]
     refine ih _ _ _ (by omega) (by omega) ?_ hN'
     rw [ByteArray.size_append]
     show ((1 + s.size : Nat) : Int) + _ ≤ _
     omega
 refine w_laws_markText N k Q (Br.dec (fun _ N1 hN1 => hQ _ _ hN1) fun h => ?_)
 exact key k.toNat k _ N (Nat.le_refl _) h0 (by show ((0 : Nat) : Int) + _ ≤ _; omega) (Nat.le_refl _)
end Go.Proofs.YtfkmegifjiiclaaGreat

/- The laws' marks on contexts. -/
set_option linter.unusedVariables false
set_option linter.unusedSimpArgs false
namespace Go.Proofs.YtfkmegifjiiclaaGreat
open Go Go.Proofs Go.Proofs.Tryz Go.IntWalk

theorem cells_ag (cs : List D) : D.cells (.ag cs) = cs := rfl
theorem p40 (v c0 c1 c2 c3 : D) : putD 0 [v] [c0, c1, c2, c3] = [v, c1, c2, c3] := rfl
theorem p41 (v c0 c1 c2 c3 : D) : putD 1 [v] [c0, c1, c2, c3] = [c0, v, c2, c3] := rfl
theorem p42 (v c0 c1 c2 c3 : D) : putD 2 [v] [c0, c1, c2, c3] = [c0, c1, v, c3] := rfl
theorem p43 (v c0 c1 c2 c3 : D) : putD 3 [v] [c0, c1, c2, c3] = [c0, c1, c2, v] := rfl
theorem nodup_mid {a b c : List D} {x : D} (h : (footL (a ++ x :: c)).Nodup) : x.foot.Nodup := by
 rw [footL_append, List.nodup_append] at h
 have := h.2.1
 simp only [footL] at this
 rw [List.nodup_append] at this
 exact this.1
end Go.Proofs.YtfkmegifjiiclaaGreat

/- The laws' marks on terms, and on one type. -/
set_option linter.unusedVariables false
set_option linter.unusedSimpArgs false
namespace Go.Proofs.YtfkmegifjiiclaaGreat
open Go Go.Proofs Go.Proofs.Tryz Go.IntWalk

theorem p90 (v c0 c1 c2 c3 c4 c5 c6 c7 c8 : D) : putD 0 [v] [c0, c1, c2, c3, c4, c5, c6, c7, c8] = [v, c1, c2, c3, c4, c5, c6, c7, c8] := rfl
theorem p91 (v c0 c1 c2 c3 c4 c5 c6 c7 c8 : D) : putD 1 [v] [c0, c1, c2, c3, c4, c5, c6, c7, c8] = [c0, v, c2, c3, c4, c5, c6, c7, c8] := rfl
theorem p92 (v c0 c1 c2 c3 c4 c5 c6 c7 c8 : D) : putD 2 [v] [c0, c1, c2, c3, c4, c5, c6, c7, c8] = [c0, c1, v, c3, c4, c5, c6, c7, c8] := rfl
theorem p93 (v c0 c1 c2 c3 c4 c5 c6 c7 c8 : D) : putD 3 [v] [c0, c1, c2, c3, c4, c5, c6, c7, c8] = [c0, c1, c2, v, c4, c5, c6, c7, c8] := rfl
theorem p94 (v c0 c1 c2 c3 c4 c5 c6 c7 c8 : D) : putD 4 [v] [c0, c1, c2, c3, c4, c5, c6, c7, c8] = [c0, c1, c2, c3, v, c5, c6, c7, c8] := rfl
theorem p95 (v c0 c1 c2 c3 c4 c5 c6 c7 c8 : D) : putD 5 [v] [c0, c1, c2, c3, c4, c5, c6, c7, c8] = [c0, c1, c2, c3, c4, v, c6, c7, c8] := rfl
theorem p96 (v c0 c1 c2 c3 c4 c5 c6 c7 c8 : D) : putD 6 [v] [c0, c1, c2, c3, c4, c5, c6, c7, c8] = [c0, c1, c2, c3, c4, c5, v, c7, c8] := rfl
theorem p97 (v c0 c1 c2 c3 c4 c5 c6 c7 c8 : D) : putD 7 [v] [c0, c1, c2, c3, c4, c5, c6, c7, c8] = [c0, c1, c2, c3, c4, c5, c6, v, c8] := rfl
theorem p98 (v c0 c1 c2 c3 c4 c5 c6 c7 c8 : D) : putD 8 [v] [c0, c1, c2, c3, c4, c5, c6, c7, c8] = [c0, c1, c2, c3, c4, c5, c6, c7, v] := rfl
theorem Ty.is_two {t : Ty} {t0 t1 : D} (h : t.Is (.ag [t0, t1])) : ∃ kk l a es c, t = .mk kk l ∧ t0 = .lit (.int .i64 kk) ∧ t1 = .sl a 2 es c ∧ es.length ≤ 4611686018427387904 ∧ TysIs l es := by
 cases t with
 | mk kk l =>
   obtain ⟨a, es, c, h1, h2, h3⟩ := Ty.is_mk.1 h
   injection h1 with h1
   injection h1 with e1 e2
   injection e2 with e2 _
   exact ⟨kk, l, a, es, c, rfl, e1, e2, h2, all2_tys h3⟩
/-- the cells of a term of these marks -/
abbrev tmD (x0 x1 x2 x3 x4 x6 : Value) (aT : Option Addr) (esT : List D) (cT : Nat) (aR : Option Addr) (esR : List D) (cR : Nat) (aA : Option Addr) (esA : List D) (cA : Nat) : D :=
 .ag [.lit x0, .lit x1, .lit x2, .lit x3, .lit x4, .sl aT 2 esT cT, .lit x6, .sl aR 2 esR cR, .sl aA 9 esA cA]
theorem tmD_foot {x0 x1 x2 x3 x4 x6 : Value} {aT : Option Addr} {esT : List D} {cT : Nat} {aR : Option Addr} {esR : List D} {cR : Nat} {aA : Option Addr} {esA : List D} {cA : Nat} :
  (tmD x0 x1 x2 x3 x4 x6 aT esT cT aR esR cR aA esA cA).foot = (D.sl aT 2 esT cT).foot ++ ((D.sl aR 2 esR cR).foot ++ (D.sl aA 9 esA cA).foot) := by
 simp only [D.foot, footL, List.nil_append, List.append_nil]
set_option maxHeartbeats 4000000
set_option maxRecDepth 100000
mutual
theorem c_markTermS : ∀ (l : List Tm) (es : List D), TmsIs l es → ∀ (a : Option Addr) (c : Nat), Tree (.sl a 9 es c) → es.length ≤ 4611686018427387904 → ∀ (k : Int), 0 ≤ k → k + 4 * tmsCnt l ≤ 288230376151711744 → ∀ (N : Nat) (R : D → Int → Nat → Prop),
  (∀ es' k' N', N ≤ N' → footL es' = footL es → es'.length = es.length → 0 ≤ k' → k' ≤ k + 4 * tmsCnt l → R (.sl a 9 es' c) k' N') → MC prog 34 (.sl a 9 es c) k N R
 | l, es, hes, a, c, htree, hlen, k, hk, hk2, N, R, hR => by
   by_cases hne : es = []
   ·subst hne
    have hl : l = [] := by have := (tms_all2.1 hes).len; simp at this; exact List.eq_nil_of_length_eq_zero this.symm
    subst hl
    refine mc_nil (w_laws_markTermS N a [] c k _ fun _ => l_laws_markTermS_2 _ _ _ _ _ _ _ _ (Br.of (fun hc => ?_) fun _ N2 hN2 => ?_))
    ·simp at hc
    ·exact hR [] k N2 hN2 rfl rfl hk (by simp [tmsCnt])
   ·cases a with
    | none => exact mc_none (by kernel_rfl) hne
    | some ad =>
      have hnd := htree.nd
      have hfoot : (D.sl (some ad) 9 es c).foot = ad.block :: footL es := by simp [D.foot, hne]
      rw [hfoot] at hnd
      refine m_laws_markTermS N ad es c k R (fun k' x N' => N ≤ N' ∧ ∃ es', x = .ag es' ∧ es'.length = es.length ∧ footL es' = footL es ∧ 0 ≤ k' ∧ k' ≤ k + 4 * tmsCnt l) htree hne (by unfold maxLen; omega) (fun t => ?_) ?_
      ·have := c_mkTmGo l es hes [] es rfl (List.nodup_cons.1 hnd).2 htree.fl.2 hlen (D.sl (some ad) 9 es c).foot (fun b hb => by rw [hfoot]; simp [hb]) ad.block N es.length c t k (k + 4 * tmsCnt l) hk (Int.le_refl _) hk2 es.length N (Nat.le_refl _) rfl
       simpa using this
      ·rintro k' x N' ⟨hN', es', rfl, h1, h2, h3, h4⟩
       exact ⟨es', rfl, h1, h2, hR es' k' N' hN' h2 h1 h3 h4⟩
theorem c_mkTmGo : ∀ (l : List Tm) (rest : List D), TmsIs l rest → ∀ (done es : List D), footL (done ++ rest) = footL es → (footL (done ++ rest)).Nodup → flat0L rest → (done ++ rest).length ≤ 4611686018427387904 →
  ∀ (T : List Nat), (∀ b ∈ footL es, b ∈ T) → ∀ (b0 N m c t : Nat) (k K : Int), 0 ≤ k → k + 4 * tmsCnt l ≤ K → K ≤ 288230376151711744 → ∀ (q N1 : Nat), N ≤ N1 → m = (done ++ rest).length →
  L_laws_markTermS_2_v1 T b0 (fun k' x N' => N ≤ N' ∧ ∃ es', x = .ag es' ∧ es'.length = m ∧ footL es' = footL es ∧ 0 ≤ k' ∧ k' ≤ K) N m c k done.length t (done ++ rest) q N1
 | [], rest, hr, done, es, hf, hnd, hfl, hlen, T, hT, b0, N, m, c, t, k, K, hk, hK, hK2, q, N1, hN1, hm => by
   simp only [TmsIs] at hr
   subst hr
   rw [List.append_nil] at *
   simp only [tmsCnt] at hK
   refine l_laws_markTermS_2_v1 _ _ _ _ _ _ _ _ _ _ _ _ ?_
   refine Br.of (fun hc => ?_) fun _ => ⟨rfl, fun N3 hN3 => ⟨by omega, done, rfl, hm.symm, hf, hk, by omega⟩⟩
   have := of_decide_eq_true hc; omega
 | .mk kk nm ot nn ty re la :: ts, rest, hr, done, es, hf, hnd, hfl, hlen, T, hT, b0, N, m, c, t, k, K, hk, hK, hK2, q, N1, hN1, hm => by
   simp only [TmsIs] at hr
   obtain ⟨d, ds, rfl, hdi, hds⟩ := hr
   simp only [Tm.Is] at hdi
   obtain ⟨t0, t1, r0, r1, aA, esA, cA, rfl, hh, hlenA, hesA⟩ := hdi
   obtain ⟨kT, lT, aT, esT, cT, rfl, rfl, rfl, hlenT, hesT⟩ := Ty.is_two hh.ty
   obtain ⟨kR, lR, aR, esR, cR, rfl, rfl, rfl, hlenR, hesR⟩ := Ty.is_two hh.re
   simp only [tmsCnt, Tm.cnt, Ty.cnt] at hK
   have hlt : (done.length : Int) < (m : Int) := by rw [hm]; simp; omega
   have hlt2 : ∀ d : D, done.length < (done ++ d :: ds).length := fun d => by simp
   have B : ∀ x : D, (0 ≤ (done.length : Int) ∧ (done.length : Int) < (m : Int) ∧ done.length < (done ++ x :: ds).length) := fun x => ⟨by omega, hlt, hlt2 x⟩
   have hfoot : ∀ (x0 x1 x2 x3 x4 x6 : Value) (eT eR eA : List D), footL eT = footL esT → eT.length = esT.length → footL eR = footL esR → eR.length = esR.length → footL eA = footL esA → eA.length = esA.length →
     (tmD x0 x1 x2 x3 x4 x6 aT eT cT aR eR cR aA eA cA).foot = (tmD (.int .i64 kk) (.string nm) (.string ot) (.int .i64 nn) (.int .i64 kT) (.int .i64 kR) aT esT cT aR esR cR aA esA cA).foot := fun x0 x1 x2 x3 x4 x6 eT eR eA h1 h2 h3 h4 h5 h6 => by
    rw [tmD_foot, tmD_foot, foot_sl h2 h1, foot_sl h4 h3, foot_sl h6 h5]
   have hndE := nodup_mid (b := []) hnd
   have hfE := @tmD_foot (.int .i64 kk) (.string nm) (.string ot) (.int .i64 nn) (.int .i64 kT) (.int .i64 kR) aT esT cT aR esR cR aA esA cA
   rw [hfE, List.nodup_append, List.nodup_append] at hndE
   have hT' : ∀ b ∈ (tmD (.int .i64 kk) (.string nm) (.string ot) (.int .i64 nn) (.int .i64 kT) (.int .i64 kR) aT esT cT aR esR cR aA esA cA).foot, b ∈ T := fun b hb => hT b (hf ▸ by rw [footL_append]; exact List.mem_append_right _ (by simp only [footL]; exact List.mem_append_left _ hb))
   rw [hfE] at hT'
   have hflT : (D.sl aT 2 esT cT).Flat0 := hfl.1.2.2.2.2.2.1
   have hflR : (D.sl aR 2 esR cR).Flat0 := hfl.1.2.2.2.2.2.2.2.1
   have hflA : (D.sl aA 9 esA cA).Flat0 := hfl.1.2.2.2.2.2.2.2.2.1
   refine l_laws_markTermS_2_v1 _ _ _ _ _ _ _ _ _ _ _ _ ?_
   rw [i64_in (k + 1) (by omega), i64_in (k + 1 + 1) (by omega), i64_in (k + 1 + 1 + 1) (by omega), i64_in (k + 1 + 1 + 1 + 1) (by omega)]
   simp only [Int.toNat_natCast, Nat.zero_add, getD_at, set_at, cells_ag, p90, p91, p92, p93, p94, p95, p96, p97, p98]
   refine Br.of (fun _ => ?_) fun hc => absurd hlt (of_decide_eq_false hc)
   refine ⟨B _, hlt2 _, fun N2 hN2 => ?_⟩
   refine c_markText _ (by omega) (by omega) N2 _ fun s N3 hN3 _ => ?_
   refine ⟨B _, hlt2 _, fun N4 hN4 => ?_⟩
   refine c_markText _ (by omega) (by omega) N4 _ fun s1 N5 hN5 _ => ?_
   refine ⟨B _, hlt2 _, B _, hlt2 _, B _, hlt2 _, B _, hlt2 _, aT, esT, cT, rfl, ⟨hndE.1, hflT⟩, ⟨fun b hb => hT' b (List.mem_append_left _ hb)⟩, hlt2 _, by simp, rfl,
    ⟨once_of hnd (hfoot _ _ _ _ _ _ esT esR esA rfl rfl rfl rfl rfl rfl)⟩, ⟨by simp⟩, fun N6 hN6 => ?_⟩
   rw [i64_in (k + 1 + 1 + 1 + 1 + 1) (by omega)]
   have hkT := mkTys_k lT (k + 1 + 1 + 1 + 1 + 1)
   refine c_markTypeS lT esT hesT aT cT ⟨hndE.1, hflT⟩ hlenT (k + 1 + 1 + 1 + 1 + 1) (by omega) (by omega) N6 _ fun esT' N7 hN7 h1 h2 h3 _ => ?_
   generalize (mkTys lT (k + 1 + 1 + 1 + 1 + 1)).2 = kT' at *
   refine ⟨B _, hlt2 _, B _, hlt2 _, aR, esR, cR, rfl, ⟨hndE.2.1.1, hflR⟩, ⟨fun b hb => hT' b (List.mem_append_right _ (List.mem_append_left _ hb))⟩, hlt2 _, by simp, rfl,
    ⟨once_of hnd (hfoot _ _ _ _ _ _ esT' esR esA h2 h3 rfl rfl rfl rfl)⟩, ⟨by simp⟩, fun N8 hN8 => ?_⟩
   rw [i64_in (kT' + 1) (by omega)]
   have hkR := mkTys_k lR (kT' + 1)
   refine c_markTypeS lR esR hesR aR cR ⟨hndE.2.1.1, hflR⟩ hlenR (kT' + 1) (by omega) (by omega) N8 _ fun esR' N9 hN9 h4 h5 h6 _ => ?_
   generalize (mkTys lR (kT' + 1)).2 = kR' at *
   refine ⟨B _, hlt2 _, aA, esA, cA, rfl, ⟨hndE.2.1.2.1, hflA⟩, ⟨fun b hb => hT' b (List.mem_append_right _ (List.mem_append_right _ hb))⟩, hlt2 _, by simp, rfl,
    ⟨once_of hnd (hfoot _ _ _ _ _ _ esT' esR' esA h2 h3 h5 h6 rfl rfl)⟩, ⟨by simp⟩, fun N10 hN10 => ?_⟩
   refine c_markTermS la esA hesA aA cA ⟨hndE.2.1.2.1, hflA⟩ hlenA kR' (by omega) (by omega) N10 _ fun esA' k' N11 hN11 h7 h8 h9 h10 _ => ?_
   rw [i64_in ((done.length : Int) + 1) (by rw [hm] at hlt; simp at hlt hlen; omega)]
   have hfx := hfoot (.int .i64 k) (.string s) (.string s1) (.int .i64 (k + 1 + 1 + 1)) (.int .i64 (k + 1 + 1 + 1 + 1)) (.int .i64 kT') esT' esR' esA' h2 h3 h5 h6 h7 h8
   generalize hx : tmD (.int .i64 k) (.string s) (.string s1) (.int .i64 (k + 1 + 1 + 1)) (.int .i64 (k + 1 + 1 + 1 + 1)) (.int .i64 kT') aT esT' cT aR esR' cR aA esA' cA = x at *
   have e1 : ((done ++ [x]).length : Int) = (done.length : Int) + 1 := by simp
   have e2 : done ++ x :: ds = (done ++ [x]) ++ ds := by simp
   rw [← e1]
   show L_laws_markTermS_2_v1 T b0 _ N m c k' _ t (done ++ tmD (.int .i64 k) (.string s) (.string s1) (.int .i64 (k + 1 + 1 + 1)) (.int .i64 (k + 1 + 1 + 1 + 1)) (.int .i64 kT') aT esT' cT aR esR' cR aA esA' cA :: ds) q N11
   rw [hx, e2]
   exact c_mkTmGo ts ds hds (done ++ [x]) es (by rw [List.append_assoc, List.singleton_append, footL_swap hfx]; exact hf) (by rw [List.append_assoc, List.singleton_append]; exact once_of hnd hfx) hfl.2 (by simpa using hlen) T hT b0 N m c t k' K
    (by omega) (by omega) hK2 q N11 (by omega) (by rw [hm]; simp)
end
end Go.Proofs.YtfkmegifjiiclaaGreat

/- The laws' marks on one type and on one term; what is held. -/
set_option linter.unusedVariables false
set_option linter.unusedSimpArgs false
namespace Go.Proofs.YtfkmegifjiiclaaGreat
open Go Go.Proofs Go.Proofs.Tryz Go.IntWalk

theorem c_markType {kk : Int} {l : List Ty} {a : Option Addr} {es : List D} {c : Nat} (hes : TysIs l es) (hlen : es.length ≤ 4611686018427387904) (ht : Tree (.ag [.lit (.int .i64 kk), .sl a 2 es c])) (k : Int) (hk : 0 ≤ k) (hk2 : k + tysCnt l ≤ 1152921504606846976) (N : Nat) (R : D → Int → Nat → Prop)
  (hR : ∀ es' N', N ≤ N' → TysIs (mkTys l k).1 es' → footL es' = footL es → es'.length = es.length → R (.ag [.lit (.int .i64 kk), .sl a 2 es' c]) (mkTys l k).2 N') : MC prog 52 (.ag [.lit (.int .i64 kk), .sl a 2 es c]) k N R := by
 have hf : (D.ag [.lit (.int .i64 kk), .sl a 2 es c]).foot = (D.sl a 2 es c).foot := by simp only [D.foot, footL, List.nil_append, List.append_nil]
 have htree : Tree (.sl a 2 es c) := ⟨hf ▸ ht.nd, ht.fl.2.1⟩
 refine m_laws_markType N [.lit (.int .i64 kk), .sl a 2 es c] k R (fun k' x N' => N ≤ N' ∧ ∃ es', x = .ag [.lit (.int .i64 kk), .sl a 2 es' c] ∧ TysIs (mkTys l k).1 es' ∧ footL es' = footL es ∧ es'.length = es.length ∧ k' = (mkTys l k).2) ⟨_, rfl, rfl, by simp [D.isCell]; rfl⟩
  ⟨a, es, c, rfl, htree, ⟨fun b hb => hf ▸ hb⟩, by simp [D.cells], rfl, ⟨(by have := ht.nd; simpa only [D.foot] using this : (footL [D.lit (.int .i64 kk), .sl a 2 es c]).Nodup)⟩, ⟨by simp⟩, fun N1 hN1 => ?_⟩ ?_
 ·refine c_markTypeS l es hes a c htree hlen k hk hk2 N1 _ fun es' N2 hN2 h1 h2 h3 _ N3 hN3 => ?_
  exact ⟨by omega, es', rfl, h1, h2, h3, rfl⟩
 ·rintro k' x N' ⟨hN', es', rfl, h1, h2, h3, rfl⟩
  have hfs := foot_sl (a := a) (z := 2) (c := c) h3 h2
  exact ⟨_, rfl, by simp [D.cv, h3], by simp only [footL, hfs], hR es' N' hN' h1 h2 h3⟩
theorem c_markTerm {t : Tm} {d : D} (hd : t.Is d) (ht : Tree d) (k : Int) (hk : 0 ≤ k) (hk2 : k + 4 * t.cnt ≤ 288230376151711744) (N : Nat) (R : D → Int → Nat → Prop)
  (hR : ∀ d' k' N', N ≤ N' → d'.foot = d.foot → 0 ≤ k' → k' ≤ k + 4 * t.cnt → R d' k' N') : MC prog 18 d k N R := by
 cases t with
 | mk kk nm ot nn ty re la =>
 obtain ⟨t0, t1, r0, r1, aA, esA, cA, rfl, hh, hlenA, hesA⟩ := Tm.is_mk.1 hd
 obtain ⟨kT, lT, aT, esT, cT, rfl, rfl, rfl, hlenT, hesT⟩ := Ty.is_two hh.ty
 obtain ⟨kR, lR, aR, esR, cR, rfl, rfl, rfl, hlenR, hesR⟩ := Ty.is_two hh.re
 have hfE := @tmD_foot (.int .i64 kk) (.string nm) (.string ot) (.int .i64 nn) (.int .i64 kT) (.int .i64 kR) aT esT cT aR esR cR aA esA cA
 have hnd := ht.nd
 rw [show (D.ag [D.lit (.int .i64 kk), .lit (.string nm), .lit (.string ot), .lit (.int .i64 nn), .lit (.int .i64 kT), .sl aT 2 esT cT, .lit (.int .i64 kR), .sl aR 2 esR cR, .sl aA 9 esA cA]).foot = _ from hfE, List.nodup_append, List.nodup_append] at hnd
 have hfl := ht.fl
 have hflT : (D.sl aT 2 esT cT).Flat0 := hfl.2.2.2.2.2.1
 have hflR : (D.sl aR 2 esR cR).Flat0 := hfl.2.2.2.2.2.2.2.1
 have hflA : (D.sl aA 9 esA cA).Flat0 := hfl.2.2.2.2.2.2.2.2.1
 simp only [Tm.cnt, Ty.cnt] at hk2 hR
 have hfoot : ∀ (eT eR eA : List D), footL eT = footL esT → eT.length = esT.length → footL eR = footL esR → eR.length = esR.length → footL eA = footL esA → eA.length = esA.length →
   footL [D.lit (.int .i64 kk), .lit (.string nm), .lit (.string ot), .lit (.int .i64 nn), .lit (.int .i64 kT), .sl aT 2 eT cT, .lit (.int .i64 kR), .sl aR 2 eR cR, .sl aA 9 eA cA] =
   footL [D.lit (.int .i64 kk), .lit (.string nm), .lit (.string ot), .lit (.int .i64 nn), .lit (.int .i64 kT), .sl aT 2 esT cT, .lit (.int .i64 kR), .sl aR 2 esR cR, .sl aA 9 esA cA] := fun eT eR eA h1 h2 h3 h4 h5 h6 => by
  simp only [footL, foot_sl (a := aT) (z := 2) (c := cT) h2 h1, foot_sl (a := aR) (z := 2) (c := cR) h4 h3, foot_sl (a := aA) (z := 9) (c := cA) h6 h5]
 have honce : (footL [D.lit (.int .i64 kk), .lit (.string nm), .lit (.string ot), .lit (.int .i64 nn), .lit (.int .i64 kT), .sl aT 2 esT cT, .lit (.int .i64 kR), .sl aR 2 esR cR, .sl aA 9 esA cA]).Nodup := by
  have := ht.nd; simpa only [D.foot] using this
 have hin : ∀ b ∈ (D.sl aT 2 esT cT).foot ++ ((D.sl aR 2 esR cR).foot ++ (D.sl aA 9 esA cA).foot), b ∈ (D.ag [D.lit (.int .i64 kk), .lit (.string nm), .lit (.string ot), .lit (.int .i64 nn), .lit (.int .i64 kT), .sl aT 2 esT cT, .lit (.int .i64 kR), .sl aR 2 esR cR, .sl aA 9 esA cA]).foot := fun b hb => by
  rw [show (D.ag [D.lit (.int .i64 kk), .lit (.string nm), .lit (.string ot), .lit (.int .i64 nn), .lit (.int .i64 kT), .sl aT 2 esT cT, .lit (.int .i64 kR), .sl aR 2 esR cR, .sl aA 9 esA cA]).foot = _ from hfE]; exact hb
 have hf2 : ∀ (x : Value) (a : Option Addr) (es : List D) (c : Nat), (D.ag [.lit x, .sl a 2 es c]).foot = (D.sl a 2 es c).foot := fun x a es c => by simp only [D.foot, footL, List.nil_append, List.append_nil]
 have tT : Tree (.ag [.lit (.int .i64 kT), .sl aT 2 esT cT]) := ⟨by rw [hf2]; exact hnd.1, trivial, hflT, trivial⟩
 have tR : Tree (.ag [.lit (.int .i64 kR), .sl aR 2 esR cR]) := ⟨by rw [hf2]; exact hnd.2.1.1, trivial, hflR, trivial⟩
 refine m_laws_markTerm N _ k R (fun k' x N' => N ≤ N' ∧ ∃ eT eR eA, x = .ag [D.lit (.int .i64 kk), .lit (.string nm), .lit (.string ot), .lit (.int .i64 nn), .lit (.int .i64 kT), .sl aT 2 eT cT, .lit (.int .i64 kR), .sl aR 2 eR cR, .sl aA 9 eA cA] ∧ footL eT = footL esT ∧ eT.length = esT.length ∧ footL eR = footL esR ∧ eR.length = esR.length ∧ footL eA = footL esA ∧ eA.length = esA.length ∧ 0 ≤ k' ∧ k' ≤ k + 4 * (1 + (1 + tysCnt lT) + (1 + tysCnt lR) + tmsCnt la : Nat))
  ⟨_, rfl, rfl, by simp [D.isCell]; exact ⟨rfl, rfl, rfl, rfl, rfl, rfl⟩⟩ ⟨tT, ⟨fun b hb => hin b (List.mem_append_left _ (by rw [← hf2 (.int .i64 kT)]; exact hb))⟩, by simp [D.cells], rfl, ⟨honce⟩, ⟨by simp⟩, fun N1 hN1 => ?_⟩ ?_
 ·have hkT := mkTys_k lT k
  refine c_markType hesT hlenT tT k hk (by omega) N1 _ fun eT N2 hN2 h1 h2 h3 _ => ?_
  generalize (mkTys lT k).2 = k1 at *
  refine ⟨tR, ⟨fun b hb => hin b (List.mem_append_right _ (List.mem_append_left _ (by rw [← hf2 (.int .i64 kR)]; exact hb)))⟩, by simp [D.cells, putD], rfl, ⟨(hfoot eT esR esA h2 h3 rfl rfl rfl rfl).symm ▸ honce⟩, ⟨by simp⟩, fun N3 hN3 => ?_⟩
  have hkR := mkTys_k lR k1
  refine c_markType hesR hlenR tR k1 (by omega) (by omega) N3 _ fun eR N4 hN4 h4 h5 h6 _ => ?_
  generalize (mkTys lR k1).2 = k2 at *
  refine ⟨aA, esA, cA, rfl, ⟨hnd.2.1.2.1, hflA⟩, ⟨fun b hb => hin b (List.mem_append_right _ (List.mem_append_right _ hb))⟩, by simp [D.cells, putD], rfl, ⟨(hfoot eT eR esA h2 h3 h5 h6 rfl rfl).symm ▸ honce⟩, ⟨by simp⟩, fun N5 hN5 => ?_⟩
  refine c_markTermS la esA (tms_all2.2 hesA) aA cA ⟨hnd.2.1.2.1, hflA⟩ hlenA k2 (by omega) (by omega) N5 _ fun eA k3 N6 hN6 h7 h8 h9 h10 _ N7 hN7 => ?_
  exact ⟨by omega, eT, eR, eA, rfl, h2, h3, h5, h6, h7, h8, h9, by omega⟩
 ·rintro k' x N' ⟨hN', eT, eR, eA, rfl, h1, h2, h3, h4, h5, h6, h7, h8⟩
  refine ⟨_, rfl, by simp [D.cv, h2, h4, h6], hfoot eT eR eA h1 h2 h3 h4 h5 h6, hR _ k' N' hN' (hfoot eT eR eA h1 h2 h3 h4 h5 h6) h7 (by omega)⟩
mutual
theorem hd_cnt1 : ∀ (t : Ty) (k : Int), 0 ≤ k → hdTy t k = -1 ∨ hdTy t k + 1 = k + t.cnt
 | .mk _ l, k, h => by
   simp only [hdTy, Ty.cnt]
   rcases hd_cnt l k h with h | h <;> omega
theorem hd_cnt : ∀ (l : List Ty) (k : Int), 0 ≤ k → hdTys l k = -1 ∨ hdTys l k = k + tysCnt l
 | [], k, _ => .inr (by simp [hdTys, tysCnt])
 | .mk kk l :: ts, k, h => by
   simp only [hdTys, tysCnt, Ty.cnt]
   split
   ·exact .inl rfl
   ·split
    ·exact .inl rfl
    ·rename_i h2
     rcases hd_cnt l (k + 1) (by omega) with h3 | h3
     ·omega
     ·rcases hd_cnt ts (hdTys l (k + 1)) (by omega) with h4 | h4
      ·exact .inl h4
      ·exact .inr (by omega)
end
theorem c_heldTypeS (t : Ty) : ∀ (es : List D) (a : Option Addr) (c : Nat), All2 Ty.Is t.as es → es.length ≤ 4611686018427387904 → ∀ n : Int, 0 ≤ n → n + tysCnt t.as ≤ 1152921504606846976 → RetI 83 [.sv a 2 es c, .int .i64 n] (hdTys t.as n) := by
 revert t
 refine Ty.ind fun k l ih es a c hes hlen n h0 h1 N Q hQ => ?_
 simp only [Ty.as] at hes hQ h1
 refine w_laws_heldTypeS N a es c n Q fun _ => ?_
 refine up hes hlen (fun i xs => ∀ (m : Int) (N' : Nat), N ≤ N' → 0 ≤ m → m + tysCnt xs ≤ 1152921504606846976 → (∀ N'', N' ≤ N'' → Q (hdTys xs m) N'') → L_laws_heldTypeS_2 Q N a es c m i N') ?_ ?_ n N (Nat.le_refl _) h0 (by omega) hQ
 ·intro i hlt _ m N' hN' hm0 hm1 hQ'
  simp only [hdTys] at hQ'
  refine l_laws_heldTypeS_2 _ _ _ _ _ _ _ _ ?_
  repeat' first|with_reducible intro _|simp only[hlt,Y1,Y2,Y3,Y4]|(with_reducible first|refine X1 ?_ ?_|refine X2 ?_ ?_|refine X3 ?_ ?_|refine X4 ?_ ?_|refine X5 ?_ ?_|refine X6 ?_ ?_|refine X7 ?_ ?_|refine X8 ?_ ?_|refine X9 ?_ ?_)|refine⟨_,_,_,rfl,?_⟩|refine⟨_,rfl,?_⟩|((with_reducible refine And.intro ?_ ?_);·first|omega|trivial|(show _=_;rfl)|((with_reducible refine And.intro ?_ ?_)<;>first|omega|trivial|(show _=_;rfl)))|fail
  exact hQ' _ (by omega)
 ·intro i x xs hat _ ih2 m N' hN' hm0 hm1 hQ'
  have hb := hat.b
  have hr := hat.r
  have ihx := ih x hat.m
  cases x with
  | mk kk lt =>
  obtain ⟨a1, es1, c1, hd, hlen1, hes1⟩ := Ty.is_mk.1 hr
  simp only [tysCnt, Ty.cnt] at hm1
  simp only [hdTys] at hQ'
  have hc := hd_cnt lt (m + 1) (by omega)
  refine l_laws_heldTypeS_2 _ _ _ _ _ _ _ _ ?_
  rw [i64_in (m + 1) (by omega)]
  repeat' first|with_reducible intro _|simp only[hat.lt, hat.w, Int.toNat_natCast, hd,Y1,Y2,Y3,Y4]|(with_reducible first|refine X1 ?_ ?_|refine X2 ?_ ?_|refine X3 ?_ ?_|refine X4 ?_ ?_|refine X5 ?_ ?_|refine X6 ?_ ?_|refine X7 ?_ ?_|refine X8 ?_ ?_|refine X9 ?_ ?_)|refine⟨_,_,_,rfl,?_⟩|refine⟨_,rfl,?_⟩|((with_reducible refine And.intro ?_ ?_);·first|omega|trivial|(show _=_;rfl)|((with_reducible refine And.intro ?_ ?_)<;>first|omega|trivial|(show _=_;rfl)))|fail
  ·rename_i hk _ _
   exact Qi (hQ' _ (by omega)) (by rw [if_pos hk])
  ·rename_i hk _ _
   have hih := ihx es1 a1 c1 hes1 hlen1 (m + 1) (by omega) (by simp only [Ty.as]; omega)
   simp only [Ty.as] at hih
   refine hih _ _ fun N3 hN3 _ => Br.dec (fun hneg N4 hN4 => ?_) fun hneg => ?_
   ·exact Qi (hQ' _ (by omega)) (by rw [if_neg (by omega), if_pos hneg])
   ·exact ih2 _ _ (by omega) (by omega) (by omega) fun N'' h => Qi (hQ' _ (by omega)) (by rw [if_neg (by omega), if_neg hneg])
theorem c_heldType {kk : Int} {l : List Ty} {a : Option Addr} {es : List D} {c : Nat} (hes : TysIs l es) (hlen : es.length ≤ 4611686018427387904) (n : Int) (h0 : 0 ≤ n) (h1 : n + tysCnt l ≤ 1152921504606846975) : RetI 53 [.dg 2 (.ag [.lit (.int .i64 kk), .sl a 2 es c]), .int .i64 n] (hdTys l n) := fun N Q hQ => by
 have hc := hd_cnt l n h0
 have := c_heldTypeS (.mk kk l) es a c (tys_all2 hes) hlen n h0 (by simp only [Ty.as]; omega)
 refine w_laws_heldType N _ n Q fun _ => ?_
 refine ⟨_, _, _, rfl, fun N1 hN1 => ?_⟩
 refine this N1 _ fun N2 hN2 _ => Br.dec (fun hneg N3 hN3 => ?_) fun hneg N3 hN3 => ?_
 ·simp only [Ty.as] at hneg
  exact Qi (hQ _ (by omega)) (by omega)
 ·exact hQ _ (by omega)
end Go.Proofs.YtfkmegifjiiclaaGreat
