/- The laws' equality on the same data, and their marks on terms and contexts. -/
import Derived.Test.YtfkmegifjiiclaaGreatVv
set_option linter.unusedVariables false
set_option linter.unusedSimpArgs false
namespace Go.Proofs.YtfkmegifjiiclaaGreat
open Go Go.Proofs Go.Proofs.Tryz Go.IntWalk

theorem zBA (t : Ty) (d e : D) (hd : t.Is d) (he : t.Is e) : wS 48 [.dg 2 d, .dg 2 e] true := fun N Q hQ => zJu t t d e hd he N Q fun N' h => Qb (hQ N' h) ((tS t t).2 rfl).symm
theorem zCC : ∀ (t : Tm) (d e : D), t.Is d → t.Is e → wS 15 [.dg 9 d, .dg 9 e] true := by
 refine Tm.ind fun k nm ot m ty re l ih d e hd he N Q hQ => ?_
 obtain ⟨t0, t1, r0, r1, a, es, c, rfl, hh, hlen, hes⟩ := Tm.is_mk.1 hd
 obtain ⟨u0, u1, v0, v1, b, fs, c', rfl, hh', hlen', hfs⟩ := Tm.is_mk.1 he
 have hl := hes.len
 have hl' := hfs.len
 have hS : wS 33 [.sv a 9 es c, .sv b 9 fs c'] true := fun N Q hQ => by
  have key := up hes hlen (fun i xs => ∀ (N' : Nat), N ≤ N' → xb Q N a es c b fs c' i N') ?_ ?_
  ·refine zEj N _ _ _ _ _ _ Q fun _ _ => ?_
   repeat' first|with_reducible intro _|simp only[Y1,Y2,Y3,Y4]|(with_reducible first|refine X1 ?_ ?_|refine X2 ?_ ?_|refine X3 ?_ ?_|refine X4 ?_ ?_|refine X5 ?_ ?_|refine X6 ?_ ?_|refine X7 ?_ ?_|refine X8 ?_ ?_|refine X9 ?_ ?_)|refine⟨_,_,_,rfl,?_⟩|refine⟨_,rfl,?_⟩|((with_reducible refine And.intro ?_ ?_);·first|omega|trivial|(show _=_;rfl)|((with_reducible refine And.intro ?_ ?_)<;>first|omega|trivial|(show _=_;rfl)))|fail
   ·omega
   ·exact key N (Nat.le_refl _)
  ·intro i hlt hi N' hN'
   refine tx _ _ _ _ _ _ _ _ _ _ ?_
   repeat' first|with_reducible intro _|simp only[hlt,Y1,Y2,Y3,Y4]|(with_reducible first|refine X1 ?_ ?_|refine X2 ?_ ?_|refine X3 ?_ ?_|refine X4 ?_ ?_|refine X5 ?_ ?_|refine X6 ?_ ?_|refine X7 ?_ ?_|refine X8 ?_ ?_|refine X9 ?_ ?_)|refine⟨_,_,_,rfl,?_⟩|refine⟨_,rfl,?_⟩|((with_reducible refine And.intro ?_ ?_);·first|omega|trivial|(show _=_;rfl)|((with_reducible refine And.intro ?_ ?_)<;>first|omega|trivial|(show _=_;rfl)))|fail
   exact hQ _ (by omega)
  ·intro i x xs hat _ ih2 N' hN'
   have hb := hat.b
   refine tx _ _ _ _ _ _ _ _ _ _ ?_
   repeat' first|with_reducible intro _|simp only[hat.lt, hat.w, Int.toNat_natCast,Y1,Y2,Y3,Y4]|(with_reducible first|refine X1 ?_ ?_|refine X2 ?_ ?_|refine X3 ?_ ?_|refine X4 ?_ ?_|refine X5 ?_ ?_|refine X6 ?_ ?_|refine X7 ?_ ?_|refine X8 ?_ ?_|refine X9 ?_ ?_)|refine⟨_,_,_,rfl,?_⟩|refine⟨_,rfl,?_⟩|((with_reducible refine And.intro ?_ ?_);·first|omega|trivial|(show _=_;rfl)|((with_reducible refine And.intro ?_ ?_)<;>first|omega|trivial|(show _=_;rfl)))|refine (ih x hat.m _ _ hat.r (hfs.get hat.g)) _ _ ?_|fail
   exact ih2 _ (by omega)
 refine zFV N _ _ Q fun _ _ => ?_
 repeat' first|with_reducible intro _|simp only[Y1,Y2,Y3,Y4]|(with_reducible first|refine X1 ?_ ?_|refine X2 ?_ ?_|refine X3 ?_ ?_|refine X4 ?_ ?_|refine X5 ?_ ?_|refine X6 ?_ ?_|refine X7 ?_ ?_|refine X8 ?_ ?_|refine X9 ?_ ?_)|refine⟨_,_,_,rfl,?_⟩|refine⟨_,rfl,?_⟩|((with_reducible refine And.intro ?_ ?_);·first|omega|trivial|(show _=_;rfl)|((with_reducible refine And.intro ?_ ?_)<;>first|omega|trivial|(show _=_;rfl)))|refine (zBA _ _ _ hh.ty hh'.ty) _ _ ?_|refine (zBA _ _ _ hh.re hh'.re) _ _ ?_|refine hS _ _ ?_|fail
 all_goals first | exact absurd rfl (by assumption) | skip
 all_goals exact hQ _ (by omega)

theorem zKg (k : Int) (h0 : 0 ≤ k) (h1 : k ≤ 2305843009213693952) : ∀ (N : Nat) (Q : QT [.str]), (∀ s N', N ≤ N' → Q s N') → ACalls prog 50 [.str] [.int .i64 k] N Q := fun N Q hQ => by
 have key : ∀ (n : Nat) (k : Int) (s : ByteArray) (N' : Nat), k.toNat ≤ n → 0 ≤ k → (s.size : Int) + k ≤ 2305843009213693952 → N ≤ N' → yd Q N k s N' := by
  intro n
  induction n with
  | zero =>
    intro k s N' hn hk hs hN'
    refine xF _ _ _ _ _ (Br.dec (fun h => ?_) fun _ => ⟨by omega, fun N1 hN1 => hQ _ _ (by omega)⟩)
    omega
  | succ n ih =>
    intro k s N' hn hk hs hN'
    refine xF _ _ _ _ _ (Br.dec (fun h => ?_) fun _ => ⟨by omega, fun N1 hN1 => hQ _ _ (by omega)⟩)
    have hd : Int.tdiv k 10 = k / 10 := Int.tdiv_eq_ediv_of_nonneg hk
    refine ⟨by decide, by simp, [_], rfl, ?_, by decide, ?_⟩
    ·show 1 + s.size ≤ _
     omega
    ·rw [hd, i64_in _ (by omega)]
     refine ih _ _ _ (by omega) (by omega) ?_ hN'
     rw [ByteArray.size_append]
     show ((1 + s.size : Nat) : Int) + _ ≤ _
     omega
 refine sU N k Q (Br.dec (fun _ N1 hN1 => hQ _ _ hN1) fun h => ?_)
 exact key k.toNat k _ N (Nat.le_refl _) h0 (by show ((0 : Nat) : Int) + _ ≤ _; omega) (Nat.le_refl _)
end Go.Proofs.YtfkmegifjiiclaaGreat

/- The laws' marks on contexts. -/
set_option linter.unusedVariables false
set_option linter.unusedSimpArgs false
namespace Go.Proofs.YtfkmegifjiiclaaGreat
open Go Go.Proofs Go.Proofs.Tryz Go.IntWalk

theorem zF1 (cs : List D) : D.cells (.ag cs) = cs := rfl
theorem p40 (v c0 c1 c2 c3 : D) : yI 0 [v] [c0, c1, c2, c3] = [v, c1, c2, c3] := rfl
theorem p41 (v c0 c1 c2 c3 : D) : yI 1 [v] [c0, c1, c2, c3] = [c0, v, c2, c3] := rfl
theorem p42 (v c0 c1 c2 c3 : D) : yI 2 [v] [c0, c1, c2, c3] = [c0, c1, v, c3] := rfl
theorem p43 (v c0 c1 c2 c3 : D) : yI 3 [v] [c0, c1, c2, c3] = [c0, c1, c2, v] := rfl
theorem zIh {a b c : List D} {x : D} (h : (zA (a ++ x :: c)).Nodup) : x.foot.Nodup := by
 rw [zC, List.nodup_append] at h
 have := h.2.1
 simp only [zA] at this
 rw [List.nodup_append] at this
 exact this.1
end Go.Proofs.YtfkmegifjiiclaaGreat

/- The cells of a term. -/
set_option linter.unusedVariables false
set_option linter.unusedSimpArgs false
namespace Go.Proofs.YtfkmegifjiiclaaGreat
open Go Go.Proofs Go.Proofs.Tryz Go.IntWalk

theorem p90 (v c0 c1 c2 c3 c4 c5 c6 c7 c8 : D) : yI 0 [v] [c0, c1, c2, c3, c4, c5, c6, c7, c8] = [v, c1, c2, c3, c4, c5, c6, c7, c8] := rfl
theorem p91 (v c0 c1 c2 c3 c4 c5 c6 c7 c8 : D) : yI 1 [v] [c0, c1, c2, c3, c4, c5, c6, c7, c8] = [c0, v, c2, c3, c4, c5, c6, c7, c8] := rfl
theorem p92 (v c0 c1 c2 c3 c4 c5 c6 c7 c8 : D) : yI 2 [v] [c0, c1, c2, c3, c4, c5, c6, c7, c8] = [c0, c1, v, c3, c4, c5, c6, c7, c8] := rfl
theorem p93 (v c0 c1 c2 c3 c4 c5 c6 c7 c8 : D) : yI 3 [v] [c0, c1, c2, c3, c4, c5, c6, c7, c8] = [c0, c1, c2, v, c4, c5, c6, c7, c8] := rfl
theorem p94 (v c0 c1 c2 c3 c4 c5 c6 c7 c8 : D) : yI 4 [v] [c0, c1, c2, c3, c4, c5, c6, c7, c8] = [c0, c1, c2, c3, v, c5, c6, c7, c8] := rfl
theorem p95 (v c0 c1 c2 c3 c4 c5 c6 c7 c8 : D) : yI 5 [v] [c0, c1, c2, c3, c4, c5, c6, c7, c8] = [c0, c1, c2, c3, c4, v, c6, c7, c8] := rfl
theorem p96 (v c0 c1 c2 c3 c4 c5 c6 c7 c8 : D) : yI 6 [v] [c0, c1, c2, c3, c4, c5, c6, c7, c8] = [c0, c1, c2, c3, c4, c5, v, c7, c8] := rfl
theorem p97 (v c0 c1 c2 c3 c4 c5 c6 c7 c8 : D) : yI 7 [v] [c0, c1, c2, c3, c4, c5, c6, c7, c8] = [c0, c1, c2, c3, c4, c5, c6, v, c8] := rfl
theorem p98 (v c0 c1 c2 c3 c4 c5 c6 c7 c8 : D) : yI 8 [v] [c0, c1, c2, c3, c4, c5, c6, c7, c8] = [c0, c1, c2, c3, c4, c5, c6, c7, v] := rfl
theorem Ty.is_two {t : Ty} {t0 t1 : D} (h : t.Is (.ag [t0, t1])) : ∃ kk l a es c, t = .mk kk l ∧ t0 = .lit (.int .i64 kk) ∧ t1 = .sl a 2 es c ∧ es.length ≤ 4611686018427387904 ∧ TysIs l es := by
 cases t with
 | mk kk l =>
   obtain ⟨a, es, c, h1, h2, h3⟩ := Ty.is_mk.1 h
   injection h1 with h1
   injection h1 with e1 e2
   injection e2 with e2 _
   exact ⟨kk, l, a, es, c, rfl, e1, e2, h2, zB7 h3⟩
/-- the cells of a term of these marks -/
abbrev tmD (x0 x1 x2 x3 x4 x6 : Value) (aT : Option Addr) (esT : List D) (cT : Nat) (aR : Option Addr) (esR : List D) (cR : Nat) (aA : Option Addr) (esA : List D) (cA : Nat) : D :=
 .ag [.lit x0, .lit x1, .lit x2, .lit x3, .lit x4, .sl aT 2 esT cT, .lit x6, .sl aR 2 esR cR, .sl aA 9 esA cA]
theorem zCB {x0 x1 x2 x3 x4 x6 : Value} {aT : Option Addr} {esT : List D} {cT : Nat} {aR : Option Addr} {esR : List D} {cR : Nat} {aA : Option Addr} {esA : List D} {cA : Nat} :
  (tmD x0 x1 x2 x3 x4 x6 aT esT cT aR esR cR aA esA cA).foot = (D.sl aT 2 esT cT).foot ++ ((D.sl aR 2 esR cR).foot ++ (D.sl aA 9 esA cA).foot) := by
 simp only [D.foot, zA, List.nil_append, List.append_nil]
end Go.Proofs.YtfkmegifjiiclaaGreat

/- The laws' marks on one type and on one term; what is held. -/
set_option linter.unusedVariables false
set_option linter.unusedSimpArgs false
namespace Go.Proofs.YtfkmegifjiiclaaGreat
open Go Go.Proofs Go.Proofs.Tryz Go.IntWalk

theorem zFA {kk : Int} {l : List Ty} {a : Option Addr} {es : List D} {c : Nat} (hes : TysIs l es) (hlen : es.length ≤ 4611686018427387904) (ht : Tree (.ag [.lit (.int .i64 kk), .sl a 2 es c])) (k : Int) (hk : 0 ≤ k) (hk2 : k + zH l ≤ 1152921504606846976) (N : Nat) (R : D → Int → Nat → Prop)
  (hR : ∀ es' N', N ≤ N' → TysIs (zL l k).1 es' → zA es' = zA es → es'.length = es.length → R (.ag [.lit (.int .i64 kk), .sl a 2 es' c]) (zL l k).2 N') : MC prog 52 (.ag [.lit (.int .i64 kk), .sl a 2 es c]) k N R := by
 have hf : (D.ag [.lit (.int .i64 kk), .sl a 2 es c]).foot = (D.sl a 2 es c).foot := by simp only [D.foot, zA, List.nil_append, List.append_nil]
 have htree : Tree (.sl a 2 es c) := ⟨hf ▸ ht.nd, ht.fl.2.1⟩
 refine zCf N [.lit (.int .i64 kk), .sl a 2 es c] k R (fun k' x N' => N ≤ N' ∧ ∃ es', x = .ag [.lit (.int .i64 kk), .sl a 2 es' c] ∧ TysIs (zL l k).1 es' ∧ zA es' = zA es ∧ es'.length = es.length ∧ k' = (zL l k).2) ⟨_, rfl, rfl, by simp [D.isCell]; rfl⟩
  ⟨a, es, c, rfl, htree, ⟨fun b hb => hf ▸ hb⟩, by simp [D.cells], rfl, ⟨(by have := ht.nd; simpa only [D.foot] using this : (zA [D.lit (.int .i64 kk), .sl a 2 es c]).Nodup)⟩, ⟨by simp⟩, fun N1 hN1 => ?_⟩ ?_
 ·refine vl l es hes a c htree hlen k hk hk2 N1 _ fun es' N2 hN2 h1 h2 h3 _ N3 hN3 => ?_
  exact ⟨by omega, es', rfl, h1, h2, h3, rfl⟩
 ·rintro k' x N' ⟨hN', es', rfl, h1, h2, h3, rfl⟩
  have hfs := tW (a := a) (z := 2) (c := c) h3 h2
  exact ⟨_, rfl, by simp [D.cv, h3], by simp only [zA, hfs], hR es' N' hN' h1 h2 h3⟩
mutual
theorem zQD : ∀ (t : Ty) (k : Int), 0 ≤ k → zQU t k = -1 ∨ zQU t k + 1 = k + t.cnt
 | .mk _ l, k, h => by
   simp only [zQU, Ty.cnt]
   rcases zIE l k h with h | h <;> omega
theorem zIE : ∀ (l : List Ty) (k : Int), 0 ≤ k → ua l k = -1 ∨ ua l k = k + zH l
 | [], k, _ => .inr (by simp [ua, zH])
 | .mk kk l :: ts, k, h => by
   simp only [ua, zH, Ty.cnt]
   split
   ·exact .inl rfl
   ·split
    ·exact .inl rfl
    ·rename_i h2
     rcases zIE l (k + 1) (by omega) with h3 | h3
     ·omega
     ·rcases zIE ts (ua l (k + 1)) (by omega) with h4 | h4
      ·exact .inl h4
      ·exact .inr (by omega)
end
theorem zCL (t : Ty) : ∀ (es : List D) (a : Option Addr) (c : Nat), All2 Ty.Is t.as es → es.length ≤ 4611686018427387904 → ∀ n : Int, 0 ≤ n → n + zH t.as ≤ 1152921504606846976 → tf 83 [.sv a 2 es c, .int .i64 n] (ua t.as n) := by
 revert t
 refine Ty.ind fun k l ih es a c hes hlen n h0 h1 N Q hQ => ?_
 simp only [Ty.as] at hes hQ h1
 refine zBY N a es c n Q fun _ => ?_
 refine up hes hlen (fun i xs => ∀ (m : Int) (N' : Nat), N ≤ N' → 0 ≤ m → m + zH xs ≤ 1152921504606846976 → (∀ N'', N' ≤ N'' → Q (ua xs m) N'') → y7 Q N a es c m i N') ?_ ?_ n N (Nat.le_refl _) h0 (by omega) hQ
 ·intro i hlt _ m N' hN' hm0 hm1 hQ'
  simp only [ua] at hQ'
  refine uH _ _ _ _ _ _ _ _ ?_
  repeat' first|with_reducible intro _|simp only[hlt,Y1,Y2,Y3,Y4]|(with_reducible first|refine X1 ?_ ?_|refine X2 ?_ ?_|refine X3 ?_ ?_|refine X4 ?_ ?_|refine X5 ?_ ?_|refine X6 ?_ ?_|refine X7 ?_ ?_|refine X8 ?_ ?_|refine X9 ?_ ?_)|refine⟨_,_,_,rfl,?_⟩|refine⟨_,rfl,?_⟩|((with_reducible refine And.intro ?_ ?_);·first|omega|trivial|(show _=_;rfl)|((with_reducible refine And.intro ?_ ?_)<;>first|omega|trivial|(show _=_;rfl)))|fail
  exact hQ' _ (by omega)
 ·intro i x xs hat _ ih2 m N' hN' hm0 hm1 hQ'
  have hb := hat.b
  have hr := hat.r
  have ihx := ih x hat.m
  cases x with
  | mk kk lt =>
  obtain ⟨a1, es1, c1, hd, hlen1, hes1⟩ := Ty.is_mk.1 hr
  simp only [zH, Ty.cnt] at hm1
  simp only [ua] at hQ'
  have hc := zIE lt (m + 1) (by omega)
  refine uH _ _ _ _ _ _ _ _ ?_
  rw [i64_in (m + 1) (by omega)]
  repeat' first|with_reducible intro _|simp only[hat.lt, hat.w, Int.toNat_natCast, hd,Y1,Y2,Y3,Y4]|(with_reducible first|refine X1 ?_ ?_|refine X2 ?_ ?_|refine X3 ?_ ?_|refine X4 ?_ ?_|refine X5 ?_ ?_|refine X6 ?_ ?_|refine X7 ?_ ?_|refine X8 ?_ ?_|refine X9 ?_ ?_)|refine⟨_,_,_,rfl,?_⟩|refine⟨_,rfl,?_⟩|((with_reducible refine And.intro ?_ ?_);·first|omega|trivial|(show _=_;rfl)|((with_reducible refine And.intro ?_ ?_)<;>first|omega|trivial|(show _=_;rfl)))|fail
  ·rename_i hk _ _
   exact Qi (hQ' _ (by omega)) (by rw [if_pos hk])
  ·rename_i hk _ _
   have hih := ihx es1 a1 c1 hes1 hlen1 (m + 1) (by omega) (by simp only [Ty.as]; omega)
   simp only [Ty.as] at hih
   refine hih _ _ fun N3 hN3 _ => Br.dec (fun hneg N4 hN4 => ?_) fun hneg => ?_
   ·exact Qi (hQ' _ (by omega)) (by rw [if_neg (by omega), if_pos hneg])
   ·exact ih2 _ _ (by omega) (by omega) (by omega) fun N'' h => Qi (hQ' _ (by omega)) (by rw [if_neg (by omega), if_neg hneg])
theorem zEq {kk : Int} {l : List Ty} {a : Option Addr} {es : List D} {c : Nat} (hes : TysIs l es) (hlen : es.length ≤ 4611686018427387904) (n : Int) (h0 : 0 ≤ n) (h1 : n + zH l ≤ 1152921504606846975) : tf 53 [.dg 2 (.ag [.lit (.int .i64 kk), .sl a 2 es c]), .int .i64 n] (ua l n) := fun N Q hQ => by
 have hc := zIE l n h0
 have := zCL (.mk kk l) es a c (vK hes) hlen n h0 (by simp only [Ty.as]; omega)
 refine zDR N _ n Q fun _ => ?_
 refine ⟨_, _, _, rfl, fun N1 hN1 => ?_⟩
 refine this N1 _ fun N2 hN2 _ => Br.dec (fun hneg N3 hN3 => ?_) fun hneg N3 hN3 => ?_
 ·simp only [Ty.as] at hneg
  exact Qi (hQ _ (by omega)) (by omega)
 ·exact hQ _ (by omega)
end Go.Proofs.YtfkmegifjiiclaaGreat
