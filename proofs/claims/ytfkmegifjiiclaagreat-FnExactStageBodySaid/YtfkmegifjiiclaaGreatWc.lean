/- Copies of terms: the program's and the reference's. -/
import Derived.Test.YtfkmegifjiiclaaGreatWp
import Derived.Test.YtfkmegifjiiclaaGreatWm
set_option linter.unusedVariables false
set_option linter.unusedSimpArgs false
namespace Go.Proofs.YtfkmegifjiiclaaGreat
open Go Go.Proofs Go.Proofs.Tryz Go.IntWalk

theorem ownL_appendR {N N1 N2 : Nat} {es fs : List D} (h1 : OwnL N1 N2 es) (h2 : OwnL N N1 fs) (hN : N ≤ N1) (hN2 : N1 ≤ N2) : OwnL N N2 (es ++ fs) := by
 refine ⟨?_, flat0L_append h1.fl h2.fl, fun b hb => ?_, fun b hb => ?_⟩
 ·rw [footL_append, List.nodup_append]
  refine ⟨h1.nd, h2.nd, fun a ha b hb hab => ?_⟩
  have := h1.lo a ha; have := h2.hi b hb; omega
 ·rw [footL_append] at hb
  rcases List.mem_append.1 hb with hb | hb
  ·have := h1.lo b hb; omega
  ·exact h2.lo b hb
 ·rw [footL_append] at hb
  rcases List.mem_append.1 hb with hb | hb
  ·exact h1.hi b hb
  ·have := h2.hi b hb; omega
/-- a term's parts anew: its head is copied, the parts are those handed in -/
theorem c_node {k : Int} {nm ot : ByteArray} {n0 : Int} {ty re : Ty} {t0 t1 r0 r1 x : D} (hh : Tm.Hd nm ot ty re t0 t1 r0 r1) (h1 : ty.cnt ≤ 1073741824) (h2 : re.cnt ≤ 1073741824) {l : List Tm} {es : List D} (hes : All2 Tm.Is l es) (hlen : es.length ≤ 4611686018427387904) (a : Option Addr) (c : Nat) (N0 N : Nat) (hN0 : N0 ≤ N) (ho : Own N0 N (.sl a 9 es c))
  (Q : QT [.ag 9]) (hQ : ∀ d' N', N ≤ N' → (Tm.mk k nm ot n0 ty re l).Is d' → Own N0 N' d' → Q d' N') :
  ACalls prog 107 [.ag 9] [.dg 9 (.ag [.lit (.int .i64 k), .lit (.string nm), .lit (.string ot), .lit (.int .i64 n0), t0, t1, r0, r1, x]), .sv a 9 es c] N Q := by
 refine w_impl_Term_node N _ a es c Q fun _ _ => ?_
 repeat' first|with_reducible intro _|simp only[Y1,Y2,Y3,Y4]|(with_reducible first|refine X1 ?_ ?_|refine X2 ?_ ?_|refine X3 ?_ ?_|refine X4 ?_ ?_|refine X5 ?_ ?_|refine X6 ?_ ?_|refine X7 ?_ ?_|refine X8 ?_ ?_|refine X9 ?_ ?_)|refine⟨_,_,_,rfl,?_⟩|refine⟨_,rfl,?_⟩|((with_reducible refine And.intro ?_ ?_);·first|omega|trivial|(show _=_;rfl)|((with_reducible refine And.intro ?_ ?_)<;>first|omega|trivial|(show _=_;rfl)))|refine (c_own _ _ hh.ty h1) _ _ ?_|refine (c_own _ _ hh.re h2) _ _ ?_|fail
 rename_i N1 hN1 x1 N2 hN2 hx hox _ _ N3 hN3 y N4 hN4 hy hoy _ _ N5 hN5
 refine hQ _ _ (by omega) (Tm.is_mk.2 ⟨_, _, _, _, _, _, _, rfl, ⟨hh.nm, hh.ot, Ty.is_cells hx, Ty.is_cells hy⟩, hlen, hes⟩) ?_
 exact own_ag (ownL_lit (ownL_lit (ownL_lit (ownL_lit (ownL_appendR (N1 := N) (ownL_append ((own_cells hx hox).mono hN1 hN3) ((own_cells hy hoy).mono (Nat.le_refl _) hN5) (by omega) (by omega)) (ownL_one ho) hN0 (by omega))))))
theorem c_ownTm : ∀ (t : Tm) (d : D), t.Is d → t.cnt ≤ 1073741824 → Cop 104 9 [.dg 9 d] t.Is := by
 refine Tm.ind fun k nm ot n0 ty re l ih d hd hc N Q hQ => ?_
 obtain ⟨t0, t1, r0, r1, a, es, c, rfl, hh, hlen, hes⟩ := Tm.is_mk.1 hd
 have hl := hes.len
 simp only [Tm.cnt] at hc
 have hlc := tms_len_cnt l
 refine w_impl_Term_own N _ Q fun _ N1 hN1 => ?_
 refine w_impl_Term_mapped_i0 N1 _ _ fun _ => ⟨_, _, _, rfl, ?_⟩
 refine up hes hlen (fun i xs => ∀ (done : List D) (q N' : Nat), N1 ≤ N' → All2 Tm.Is (l.take i) done → done.length = i → OwnL N1 N' done →
  L_impl_Term_mapped_3 _ N1 done.length q a es c es.length i (.ag [.lit (.int .i64 k), .lit (.string nm), .lit (.string ot), .lit (.int .i64 n0), t0, t1, r0, r1, .sl a 9 es c]) 0 (bytes []) (bytes []) 0 0 none [] 0 0 none [] 0 none [] 0 done q N') ?_ ?_ [] 0 N1 (Nat.le_refl _) rfl rfl ownL_nil
 ·intro i hlt hi done q N' hN' hd hdl ho
  refine l_impl_Term_mapped_3 _ _ _ _ _ _ _ _ _ _ _ _ _ _ _ _ _ _ _ _ _ _ _ _ _ _ _ _ ?_
  rw [List.take_of_length_le (by omega)] at hd
  rw [hlt]
  refine ⟨⟨rfl, rfl⟩, ⟨rfl, rfl⟩, fun a2 N3 hN3 hf N4 hN4 => ?_⟩
  refine c_node hh (by omega) (by omega) hd (by omega) a2 q N1 N4 (by omega) ((own_sl ho hf hN3).mono (Nat.le_refl _) hN4) _ fun d' N5 hN5 hd' hod _ _ N6 hN6 => ?_
  exact fun _ _ N7 hN7 => hQ _ _ (by omega) hd' (hod.mono hN1 (by omega))
 ·intro i x xs hat _ ih2 done q N' hN' hd hdl ho
  have hb := hat.b
  have hxc := tms_mem_cnt hat.m
  refine l_impl_Term_mapped_3 _ _ _ _ _ _ _ _ _ _ _ _ _ _ _ _ _ _ _ _ _ _ _ _ _ _ _ _ ?_
  repeat' first|with_reducible intro _|simp only[hat.lt, hat.w, Int.toNat_natCast,Y1,Y2,Y3,Y4]|(with_reducible first|refine X1 ?_ ?_|refine X2 ?_ ?_|refine X3 ?_ ?_|refine X4 ?_ ?_|refine X5 ?_ ?_|refine X6 ?_ ?_|refine X7 ?_ ?_|refine X8 ?_ ?_|refine X9 ?_ ?_)|refine⟨_,_,_,rfl,?_⟩|refine⟨_,rfl,?_⟩|((with_reducible refine And.intro ?_ ?_);·first|omega|trivial|(show _=_;rfl)|((with_reducible refine And.intro ?_ ?_)<;>first|omega|trivial|(show _=_;rfl)))|refine (ih x hat.m _ hat.r (by omega)) _ _ ?_|fail
  rename_i N2 hN2 x' N3 hN3 hx hox _ _
  refine ⟨by unfold apBound; rw [List.length_append]; simp only [List.length_cons, List.length_nil]; omega, fun c1 => ?_⟩
  refine ih2 _ _ _ (by omega) (by rw [take_at hat.g]; exact hd.snoc hx) (by simp [hdl]) (ownL_append (ho.mono (Nat.le_refl _) hN2) (ownL_one hox) (by omega) hN3)
theorem nodup_sl {a : Option Addr} {z c : Nat} {es : List D} (h : (footL es).Nodup) (ha : ∀ ad, a = some ad → ad.block ∉ footL es) : (D.sl a z es c).foot.Nodup := by
 cases a with
 | none => simpa only [D.foot] using h
 | some ad =>
   simp only [D.foot]
   split
   ·exact List.nodup_nil
   ·exact List.nodup_cons.2 ⟨ha ad rfl, h⟩
/-- a copied part goes behind the others -/
theorem own_cp {N0 N1 N2 N3 : Nat} {hd r xs es : List D} {l0 l1 l2 l3 : Value} {a : Option Addr} {c : Nat} {ds : List D} (h1 : OwnL N0 N1 (hd ++ r)) (h2 : OwnL N1 N2 (xs ++ es)) (hf : Fresh N0 N3 a ds) (g1 : N0 ≤ N1) (g2 : N1 ≤ N2) (g3 : N2 ≤ N3)
  (d1 : ∀ ad, a = some ad → ad.block ∉ footL (hd ++ r)) (d2 : ∀ ad, a = some ad → ad.block ∉ footL (xs ++ es)) : OwnL N0 N3 (hd ++ (r ++ [.ag (.lit l0 :: .lit l1 :: .lit l2 :: .lit l3 :: (xs ++ [.sl a 9 es c]))])) := by
 have hn1 := h1.nd
 have hn2 := h2.nd
 rw [footL_append] at hn1 hn2
 have e : footL (hd ++ (r ++ [.ag (.lit l0 :: .lit l1 :: .lit l2 :: .lit l3 :: (xs ++ [.sl a 9 es c]))])) = footL (hd ++ r) ++ (footL xs ++ (D.sl a 9 es c).foot) := by
  simp only [footL_append, footL, D.foot, List.nil_append, List.append_nil, List.append_assoc]
 have hfl1 := h1.fl
 have hfl2 := h2.fl
 have hbs : ∀ b, b ∈ (D.sl a 9 es c).foot → b ∈ footL (xs ++ es) ∨ ∃ ad, a = some ad ∧ b = ad.block := fun b hb => by
  rcases foot_sl_sub b hb with h | h
  ·left; rw [footL_append]; exact List.mem_append_right _ h
  ·exact .inr h
 refine ⟨?_, ?_, fun b hb => ?_, fun b hb => ?_⟩
 ·rw [e, List.nodup_append]
  refine ⟨h1.nd, ?_, fun x hx y hy hxy => ?_⟩
  ·rw [List.nodup_append] at hn2 ⊢
   refine ⟨hn2.1, nodup_sl hn2.2.1 fun ad h hc => d2 ad h (by rw [footL_append]; exact List.mem_append_right _ hc), fun x hx y hy hxy => ?_⟩
   subst hxy
   rcases foot_sl_sub x hy with h | ⟨ad, h9, h'⟩
   ·exact hn2.2.2 x hx x h rfl
   ·subst h'; exact d2 ad h9 (by rw [footL_append]; exact List.mem_append_left _ hx)
  ·subst hxy
   have hxi := h1.hi x hx
   rcases List.mem_append.1 hy with h | h
   ·have := h2.lo x (by rw [footL_append]; exact List.mem_append_left _ h); omega
   ·rcases hbs x h with h | ⟨ad, h9, h'⟩
    ·have := h2.lo x h; omega
    ·subst h'; exact d1 ad h9 hx
 ·have hxs : flat0L xs ∧ flat0L es := by
   have : ∀ (u v : List D), flat0L (u ++ v) → flat0L u ∧ flat0L v := by
    intro u
    induction u with
    | nil => intro v h; exact ⟨trivial, h⟩
    | cons y u ih => intro v h; obtain ⟨g1, g2⟩ := ih v h.2; exact ⟨⟨h.1, g1⟩, g2⟩
   exact this _ _ hfl2
  have hpr : flat0L hd ∧ flat0L r := by
   have : ∀ (u v : List D), flat0L (u ++ v) → flat0L u ∧ flat0L v := by
    intro u
    induction u with
    | nil => intro v h; exact ⟨trivial, h⟩
    | cons y u ih => intro v h; obtain ⟨g1, g2⟩ := ih v h.2; exact ⟨⟨h.1, g1⟩, g2⟩
   exact this _ _ hfl1
  refine flat0L_append hpr.1 (flat0L_append hpr.2 ⟨?_, trivial⟩)
  have hsl : D.Flat0 (.sl a 9 es c) := ⟨fun ad h => hf.off ad h, hxs.2⟩
  exact ⟨trivial, trivial, trivial, trivial, flat0L_append hxs.1 ⟨hsl, trivial⟩⟩
 ·rw [e] at hb
  rcases List.mem_append.1 hb with h | h
  ·exact h1.lo b h
  ·rcases List.mem_append.1 h with h | h
   ·have := h2.lo b (by rw [footL_append]; exact List.mem_append_left _ h); omega
   ·rcases hbs b h with h | ⟨ad, h9, h'⟩
    ·have := h2.lo b h; omega
    ·subst h'; exact hf.lo ad h9
 ·rw [e] at hb
  rcases List.mem_append.1 hb with h | h
  ·have := h1.hi b h; omega
  ·rcases List.mem_append.1 h with h | h
   ·have := h2.hi b (by rw [footL_append]; exact List.mem_append_left _ h); omega
   ·rcases hbs b h with h | ⟨ad, h9, h'⟩
    ·have := h2.hi b h; omega
    ·subst h'; exact hf.hi ad h9
/-- the reference's copy, told cell by cell -/
theorem c_l5Copy : ∀ (t : Tm) (d : D), t.Is d → t.cnt ≤ 1073741824 → ∀ (N : Nat) (Q : QT [.pk, .int .i64, .str, .str, .int .i64, .dc, .dc, .dc, .dc, .row 36 9]),
  (match t with | .mk k nm ot n ty re l => ∀ x4 x5 x6 x7 es' c' N', N ≤ N' → Tm.Hd nm ot ty re x4 x5 x6 x7 → All2 Tm.Is l es' → OwnL N N' ([x4, x5, x6, x7] ++ es') → Q k nm ot n x4 x5 x6 x7 es' c' N') →
  ACalls prog 75 [.pk, .int .i64, .str, .str, .int .i64, .dc, .dc, .dc, .dc, .row 36 9] [.dg 9 d] N Q := by
 refine Tm.ind fun k nm ot n0 ty re l ih d hd hc N Q hQ => ?_
 obtain ⟨t0, t1, r0, r1, a, es, c, rfl, hh, hlen, hes⟩ := Tm.is_mk.1 hd
 have hl := hes.len
 simp only [Tm.cnt] at hc
 have hlc := tms_len_cnt l
 simp only at hQ
 refine w_spec_l5Copy N _ Q fun _ => ?_
 repeat' first|with_reducible intro _|simp only[Y1,Y2,Y3,Y4]|(with_reducible first|refine X1 ?_ ?_|refine X2 ?_ ?_|refine X3 ?_ ?_|refine X4 ?_ ?_|refine X5 ?_ ?_|refine X6 ?_ ?_|refine X7 ?_ ?_|refine X8 ?_ ?_|refine X9 ?_ ?_)|refine⟨_,_,_,rfl,?_⟩|refine⟨_,rfl,?_⟩|((with_reducible refine And.intro ?_ ?_);·first|omega|trivial|(show _=_;rfl)|((with_reducible refine And.intro ?_ ?_)<;>first|omega|trivial|(show _=_;rfl)))|refine (c_spec_l3Copy _ _ hh.ty (by omega)) _ _ ?_|refine (c_spec_l3Copy _ _ hh.re (by omega)) _ _ ?_|fail
 rename_i N1 hN1 x1 N2 hN2 hx hox _ _ N3 hN3 y N4 hN4 hy hoy _ _
 have hHd : Tm.Hd nm ot ty re (x1.cell 0) (x1.cell 1) (y.cell 0) (y.cell 1) := ⟨hh.nm, hh.ot, Ty.is_cells hx, Ty.is_cells hy⟩
 have hOX : OwnL N N4 ([x1.cell 0, x1.cell 1, y.cell 0, y.cell 1] ++ []) := by
  have h := ownL_append ((own_cells hx hox).mono hN1 (Nat.le_refl _)) ((own_cells hy hoy).mono hN3 (Nat.le_refl _)) (by omega) (by omega)
  exact h
 refine up hes hlen (fun i xs => ∀ (done : List D) (q N' : Nat), N4 ≤ N' → All2 Tm.Is (l.take i) done → done.length = i → OwnL N N' ([x1.cell 0, x1.cell 1, y.cell 0, y.cell 1] ++ done) →
  L_spec_l5Copy_3 Q N i (.ag [.lit (.int .i64 k), .lit (.string nm), .lit (.string ot), .lit (.int .i64 n0), t0, t1, r0, r1, .sl a 9 es c]) 0 (bytes []) (bytes []) 0 0 none [] 0 0 none [] 0 none [] 0 k nm ot n0 (x1.cell 0) (x1.cell 1) (y.cell 0) (y.cell 1) done.length q done q N') ?_ ?_ [] 0 N4 (Nat.le_refl _) rfl rfl hOX
 ·intro i hlt hi done q N' hN' hd hdl ho
  refine l_spec_l5Copy_3 _ _ _ _ _ _ _ _ _ _ _ _ _ _ _ _ _ _ _ _ _ _ _ _ _ _ _ _ _ _ _ _ ⟨_, _, _, rfl, ?_⟩
  rw [List.take_of_length_le (by omega)] at hd
  rw [hlt]
  exact ⟨⟨rfl, rfl⟩, fun N5 hN5 => hQ _ _ _ _ _ _ _ (by omega) hHd hd (ho.mono (Nat.le_refl _) hN5)⟩
 ·intro i x xs hat _ ih2 done q N' hN' hd hdl ho
  have hb := hat.b
  have hxc := tms_mem_cnt hat.m
  refine l_spec_l5Copy_3 _ _ _ _ _ _ _ _ _ _ _ _ _ _ _ _ _ _ _ _ _ _ _ _ _ _ _ _ _ _ _ _ ⟨_, _, _, rfl, ?_⟩
  rw [hat.lt]
  refine ⟨_, _, _, rfl, ⟨by omega, by omega⟩, fun N5 hN5 => ?_⟩
  rw [Int.toNat_natCast, hat.w]
  refine ih x hat.m _ hat.r (by omega) _ _ ?_
  cases x with
  | mk k2 nm2 ot2 n2 ty2 re2 l2 =>
    intro x4 x5 x6 x7 es2 c2 N6 hN6 hh2 hes2 ho2 _ _
    have hl2 := hes2.len
    have hlc2 := tms_len_cnt l2
    simp only [Tm.cnt] at hxc
    refine ⟨⟨rfl, rfl⟩, fun a2 N7 hN7 hf => ⟨⟨rfl, rfl⟩, by unfold apBound; rw [List.length_append]; simp only [List.length_cons, List.length_nil]; omega, fun c3 => ?_⟩⟩
    refine ih2 _ _ _ (by omega) (by rw [take_at hat.g]; exact hd.snoc (Tm.is_mk.2 ⟨_, _, _, _, _, _, _, rfl, hh2, by omega, hes2⟩)) (by simp [hdl]) ?_
    refine own_cp (hd := [x1.cell 0, x1.cell 1, y.cell 0, y.cell 1]) (xs := [x4, x5, x6, x7]) (ho.mono (Nat.le_refl _) hN5) ho2 hf (by omega) (by omega) (by omega) ?_ ?_
    ·intro ad h hc
     have hap := hf.ap ad h
     simp only [List.mem_cons, forall_eq_or_imp, D.foot, List.not_mem_nil, false_imp_iff, implies_true, and_true] at hap
     simp only [List.cons_append, List.nil_append, footL, List.mem_append] at hc
     obtain ⟨_, _, _, _, _, g1, g2, g3, g4, g5⟩ := hap
     rcases hc with hc | hc | hc | hc | hc
     ·exact g1 hc
     ·exact g2 hc
     ·exact g3 hc
     ·exact g4 hc
     ·exact g5 hc
    ·intro ad h hc
     have hap := hf.ap ad h
     simp only [List.mem_cons, forall_eq_or_imp, D.foot, List.not_mem_nil, false_imp_iff, implies_true, and_true] at hap
     simp only [List.cons_append, List.nil_append, footL, List.mem_append] at hc
     obtain ⟨g5, g1, g2, g3, g4, _⟩ := hap
     rcases hc with hc | hc | hc | hc | hc
     ·exact g1 hc
     ·exact g2 hc
     ·exact g3 hc
     ·exact g4 hc
     ·exact g5 hc
end Go.Proofs.YtfkmegifjiiclaaGreat

/- A term built by the reference: l5Node. -/
set_option linter.unusedVariables false
set_option linter.unusedSimpArgs false
namespace Go.Proofs.YtfkmegifjiiclaaGreat
open Go Go.Proofs Go.Proofs.Tryz Go.IntWalk

theorem ownL_sn {N N' : Nat} {es : List D} (h : OwnL N N' es) : OwnL N N' (.sl none 2 [] 0 :: es) :=
 ⟨by simpa only [footL, D.foot, List.nil_append] using h.nd, ⟨⟨by simp, trivial⟩, h.fl⟩, by simpa only [footL, D.foot, List.nil_append] using h.lo, by simpa only [footL, D.foot, List.nil_append] using h.hi⟩
/-- a node of the reference: the parts are copied -/
theorem c_l5Node (k : Int) {l : List Tm} {es : List D} (hes : All2 Tm.Is l es) (hlen : es.length ≤ 1073741824) (hc : ∀ x ∈ l, x.cnt ≤ 1073741824) (a : Option Addr) (c : Nat) (N : Nat) (Q : QT [.ag 9])
  (hQ : ∀ d' N', N ≤ N' → (Tm.mk k (bytes []) (bytes []) 0 (.mk 0 []) (.mk 0 []) l).Is d' → Own N N' d' → Q d' N') :
  ACalls prog 90 [.ag 9] [.int .i64 k, .sv a 9 es c] N Q := by
 have hl := hes.len
 refine w_spec_l5Node N _ a es c Q fun _ => ?_
 refine up hes (by omega) (fun i xs => ∀ (done : List D) (q N' : Nat), N ≤ N' → All2 Tm.Is (l.take i) done → done.length = i → OwnL N N' done →
  L_spec_l5Node_3 Q N a es c i 0 (bytes []) (bytes []) 0 0 none [] 0 0 none [] 0 none [] 0 k (bytes []) (bytes []) 0 0 none [] 0 0 none [] 0 done.length q done q N') ?_ ?_ [] 0 N (Nat.le_refl _) rfl rfl ownL_nil
 ·intro i hlt hi done q N' hN' hd hdl ho
  refine l_spec_l5Node_3 _ _ _ _ _ _ _ _ _ _ _ _ _ _ _ _ _ _ _ _ _ _ _ _ _ _ _ _ _ _ _ _ _ _ _ _ _ _ ?_
  rw [List.take_of_length_le (by omega)] at hd
  rw [hlt]
  refine ⟨⟨rfl, rfl⟩, ⟨rfl, rfl⟩, ⟨rfl, rfl⟩, fun a1 N4 hN4 hf N5 hN5 => hQ _ _ (by omega) (Tm.is_mk.2 ⟨_, _, _, _, _, _, _, rfl, ⟨by decide, by decide, is_nil _, is_nil _⟩, by omega, hd⟩) ?_⟩
  exact own_ag (ownL_lit (ownL_lit (ownL_lit (ownL_lit (ownL_lit (ownL_sn (ownL_lit (ownL_sn (ownL_one ((own_sl ho hf hN4).mono (Nat.le_refl _) hN5))))))))))
 ·intro i x xs hat _ ih2 done q N' hN' hd hdl ho
  have hb := hat.b
  have hxc := hc x hat.m
  refine l_spec_l5Node_3 _ _ _ _ _ _ _ _ _ _ _ _ _ _ _ _ _ _ _ _ _ _ _ _ _ _ _ _ _ _ _ _ _ _ _ _ _ _ ?_
  rw [hat.lt]
  refine ⟨⟨by omega, by omega⟩, fun N5 hN5 => ?_⟩
  rw [Int.toNat_natCast, hat.w]
  refine c_l5Copy x _ hat.r (by omega) _ _ ?_
  cases x with
  | mk k2 nm2 ot2 n2 ty2 re2 l2 =>
    intro x4 x5 x6 x7 es2 c2 N6 hN6 hh2 hes2 ho2 _ _
    have hl2 := hes2.len
    have hlc2 := tms_len_cnt l2
    simp only [Tm.cnt] at hxc
    refine ⟨⟨rfl, rfl⟩, fun a2 N7 hN7 hf => ⟨⟨rfl, rfl⟩, by unfold apBound; rw [List.length_append]; simp only [List.length_cons, List.length_nil]; omega, fun c3 => ?_⟩⟩
    refine ih2 _ _ _ (by omega) (by rw [take_at hat.g]; exact hd.snoc (Tm.is_mk.2 ⟨_, _, _, _, _, _, _, rfl, hh2, by omega, hes2⟩)) (by simp [hdl]) ?_
    refine own_cp (hd := []) (xs := [x4, x5, x6, x7]) (ho.mono (Nat.le_refl _) hN5) ho2 hf (by omega) (by omega) (by omega) ?_ ?_
    ·intro ad h hc
     have hap := hf.ap ad h (.ag done) (by simp)
     exact hap (by simpa only [D.foot, List.nil_append] using hc)
    ·intro ad h hc
     have hap := hf.ap ad h
     simp only [List.cons_append, List.nil_append, footL, List.mem_append] at hc
     rcases hc with hc | hc | hc | hc | hc
     ·exact hap x4 (by simp) hc
     ·exact hap x5 (by simp) hc
     ·exact hap x6 (by simp) hc
     ·exact hap x7 (by simp) hc
     ·exact hap (.ag es2) (by simp) (by simpa only [D.foot] using hc)
end Go.Proofs.YtfkmegifjiiclaaGreat

/- The reference's quote, splice and let. -/
set_option linter.unusedVariables false
set_option linter.unusedSimpArgs false
namespace Go.Proofs.YtfkmegifjiiclaaGreat
open Go Go.Proofs Go.Proofs.Tryz Go.IntWalk

/-- a node with nothing but its kind and its parts -/
def Tm.nod (k : Int) (l : List Tm) : Tm := .mk k (bytes []) (bytes []) 0 (.mk 0 []) (.mk 0 []) l
theorem all2_one {t : Tm} {d : D} (h : t.Is d) : All2 Tm.Is [t] [d] := ⟨d, [], rfl, h, rfl⟩
theorem all2_two {t u : Tm} {d e : D} (h : t.Is d) (g : u.Is e) : All2 Tm.Is [t, u] [d, e] := ⟨d, [e], rfl, h, all2_one g⟩
theorem c_l17Quote (t : Tm) (d : D) (hd : t.Is d) (hc : t.cnt ≤ 1073741824) : Cop 65 9 [.dg 9 d] (Tm.nod 10 [t]).Is := fun N Q hQ => by
 refine w_spec_l17Quote N _ Q fun _ => ⟨⟨rfl, rfl⟩, fun a _ N1 hN1 hb => ?_⟩
 refine c_l5Node 10 (all2_one hd) (by simp) (by simpa using hc) a 1 N1 _ fun d' N2 hN2 hd' ho _ => ⟨off_own hb ho, fun _ N3 hN3 => hQ _ _ (by omega) hd' (ho.mono hN1 hN3)⟩
theorem c_l17Splice (t : Tm) (d : D) (hd : t.Is d) (hc : t.cnt ≤ 1073741824) : Cop 66 9 [.dg 9 d] (Tm.nod 11 [t]).Is := fun N Q hQ => by
 refine w_spec_l17Splice N _ Q fun _ => ⟨⟨rfl, rfl⟩, fun a _ N1 hN1 hb => ?_⟩
 refine c_l5Node 11 (all2_one hd) (by simp) (by simpa using hc) a 1 N1 _ fun d' N2 hN2 hd' ho _ => ⟨off_own hb ho, fun _ N3 hN3 => hQ _ _ (by omega) hd' (ho.mono hN1 hN3)⟩
theorem own_lit1 {N N' : Nat} {v0 v1 v2 w : Value} {es : List D} (h : Own N N' (.ag (.lit v0 :: .lit v1 :: es))) : Own N N' (.ag (.lit v0 :: .lit w :: es)) :=
 ⟨by simpa only [footL, D.foot, List.nil_append] using h.nd, h.fl, by simpa only [footL, D.foot, List.nil_append] using h.lo, by simpa only [footL, D.foot, List.nil_append] using h.hi⟩
/-- a let around a name -/
def Tm.letN (s : ByteArray) (t u : Tm) : Tm := .mk 8 s (bytes []) 0 (.mk 0 []) (.mk 0 []) [t, u]
theorem c_l5Let (s : ByteArray) (hs : s.size ≤ 4611686018427387904) (t u : Tm) (d e : D) (hd : t.Is d) (he : u.Is e) (hc : t.cnt ≤ 1073741824) (hc2 : u.cnt ≤ 1073741824) : Cop 91 9 [.str s, .dg 9 d, .dg 9 e] (Tm.letN s t u).Is := fun N Q hQ => by
 refine w_spec_l5Let N s _ _ Q fun _ _ => ⟨⟨rfl, rfl⟩, fun a _ N1 hN1 hb => ?_⟩
 refine c_l5Node 8 (all2_two hd he) (by simp) (by simpa using ⟨hc, hc2⟩) a 2 N1 _ fun d' N2 hN2 hd' ho _ => ⟨off_own hb ho, fun _ N3 hN3 => ?_⟩
 obtain ⟨t0, t1, r0, r1, a', es, c, rfl, hh, hlen, hes⟩ := Tm.is_mk.1 hd'
 exact hQ _ _ (by omega) (Tm.is_mk.2 ⟨_, _, _, _, _, _, _, rfl, ⟨hs, hh.ot, hh.ty, hh.re⟩, hlen, hes⟩) ((own_lit1 (v2 := .string s) ho).mono hN1 hN3)
end Go.Proofs.YtfkmegifjiiclaaGreat

/- The code for a body: what it is, and the reference's walk. -/
set_option linter.unusedVariables false
set_option linter.unusedSimpArgs false
namespace Go.Proofs.YtfkmegifjiiclaaGreat
open Go Go.Proofs Go.Proofs.Tryz Go.IntWalk

/-- what is bound around the parts behind the first -/
def bdE (k : Int) (nm : ByteArray) (v : List Bd) (b : Bool) : List Bd := if k = 8 then v ++ [(nm, b)] else v
def hdLate : List Tm → List Bd → Bool
 | [], _ => true
 | x :: _, v => x.late v
mutual
def Tm.code : Tm → List Bd → Tm
 | .mk k nm ot n ty re l, v => if (Tm.mk k nm ot n ty re l).late v = false then Tm.nod 13 [.mk k nm ot n ty re l] else if k = 1 then Tm.nod 10 [.mk k nm ot n ty re l] else
   if k ≠ 4 ∧ hdLate l v = false then .mk k nm ot n ty re (tmsKeep l k nm v) else Tm.nod 10 [.mk k nm ot n ty re (tmsAll l k nm v)]
def tmsCode : List Tm → List Bd → List Tm
 | [], _ => []
 | x :: xs, v => x.code v :: tmsCode xs v
def tmsSpl : List Tm → List Bd → List Tm
 | [], _ => []
 | x :: xs, v => Tm.nod 11 [x.code v] :: tmsSpl xs v
def tmsKeep : List Tm → Int → ByteArray → List Bd → List Tm
 | [], _, _, _ => []
 | x :: xs, k, nm, v => x :: tmsCode xs (bdE k nm v (x.late v))
def tmsAll : List Tm → Int → ByteArray → List Bd → List Tm
 | [], _, _, _ => []
 | x :: xs, k, nm, v => Tm.nod 11 [x.code v] :: tmsSpl xs (bdE k nm v (x.late v))
end
theorem Tm.cnt3 : ∀ t : Tm, 3 ≤ t.cnt
 | .mk _ _ _ _ ty re _ => by simp only [Tm.cnt]; have := ty.cnt_pos; have := re.cnt_pos; omega
theorem nod_cnt (k : Int) (l : List Tm) : (Tm.nod k l).cnt = 3 + tmsCnt l := by simp only [Tm.nod, Tm.cnt, Ty.cnt, tysCnt]
mutual
theorem code_cnt : ∀ (t : Tm) (v : List Bd), (t.code v).cnt + 3 ≤ 3 * t.cnt
 | .mk k nm ot n ty re l, v => by
   have h3 := Tm.cnt3 (.mk k nm ot n ty re l)
   have hK := keep_cnt l k nm v
   have hA := all_cnt l k nm v
   simp only [Tm.code]
   have c1 := ty.cnt_pos
   have c2 := re.cnt_pos
   split
   ·simp only [nod_cnt, tmsCnt]; omega
   ·split
    ·simp only [nod_cnt, tmsCnt]; omega
    ·split
     ·simp only [Tm.cnt]
      simp only [Tm.cnt] at h3
      omega
     ·simp only [nod_cnt, tmsCnt, Tm.cnt]
      omega
theorem code_cntL : ∀ (l : List Tm) (v : List Bd), tmsCnt (tmsCode l v) ≤ 3 * tmsCnt l
 | [], v => by simp [tmsCode, tmsCnt]
 | x :: xs, v => by simp only [tmsCode, tmsCnt]; have := code_cnt x v; have := code_cntL xs v; omega
theorem spl_cnt : ∀ (l : List Tm) (v : List Bd), tmsCnt (tmsSpl l v) ≤ 3 * tmsCnt l
 | [], v => by simp [tmsSpl, tmsCnt]
 | x :: xs, v => by simp only [tmsSpl, tmsCnt, nod_cnt]; have := code_cnt x v; have := spl_cnt xs v; omega
theorem keep_cnt : ∀ (l : List Tm) (k : Int) (nm : ByteArray) (v : List Bd), tmsCnt (tmsKeep l k nm v) ≤ 3 * tmsCnt l
 | [], _, _, v => by simp [tmsKeep, tmsCnt]
 | x :: xs, k, nm, v => by simp only [tmsKeep, tmsCnt]; have := code_cntL xs (bdE k nm v (x.late v)); omega
theorem all_cnt : ∀ (l : List Tm) (k : Int) (nm : ByteArray) (v : List Bd), tmsCnt (tmsAll l k nm v) ≤ 3 * tmsCnt l
 | [], _, _, v => by simp [tmsAll, tmsCnt]
 | x :: xs, k, nm, v => by simp only [tmsAll, tmsCnt, nod_cnt]; have := code_cnt x v; have := spl_cnt xs (bdE k nm v (x.late v)); omega
end
/-- the spliced code of the parts, those at a place from 1 on by what is bound there -/
theorem spl_len : ∀ (l : List Tm) (v : List Bd), (tmsSpl l v).length = l.length
 | [], _ => by simp only [tmsSpl]
 | x :: xs, v => by simp only [tmsSpl, List.length_cons, spl_len xs v]
theorem code_len : ∀ (l : List Tm) (v : List Bd), (tmsCode l v).length = l.length
 | [], _ => by simp only [tmsCode]
 | x :: xs, v => by simp only [tmsCode, List.length_cons, code_len xs v]
theorem all_len : ∀ (l : List Tm) (k : Int) (nm : ByteArray) (v : List Bd), (tmsAll l k nm v).length = l.length
 | [], _, _, _ => by simp only [tmsAll]
 | x :: xs, k, nm, v => by simp only [tmsAll, List.length_cons, spl_len xs]
theorem spl_get : ∀ (l : List Tm) (v : List Bd) (i : Nat) (x : Tm), l[i]? = some x → (tmsSpl l v)[i]? = some (Tm.nod 11 [x.code v])
 | [], v, i, x, h => by simp at h
 | y :: ys, v, 0, x, h => by simp at h; subst h; simp [tmsSpl]
 | y :: ys, v, i + 1, x, h => by simp only [tmsSpl, List.getElem?_cons_succ]; exact spl_get ys v i x (by simpa using h)
theorem code_get : ∀ (l : List Tm) (v : List Bd) (i : Nat) (x : Tm), l[i]? = some x → (tmsCode l v)[i]? = some (x.code v)
 | [], v, i, x, h => by simp at h
 | y :: ys, v, 0, x, h => by simp at h; subst h; simp [tmsCode]
 | y :: ys, v, i + 1, x, h => by simp only [tmsCode, List.getElem?_cons_succ]; exact code_get ys v i x (by simpa using h)
/-- what is bound in the part at a place -/
def bdI (k : Int) (nm : ByteArray) (l : List Tm) (v : List Bd) (i : Nat) : List Bd := if i = 0 then v else bdE k nm v (hdLate l v)
theorem all_get : ∀ (l : List Tm) (k : Int) (nm : ByteArray) (v : List Bd) (i : Nat) (x : Tm), l[i]? = some x → (tmsAll l k nm v)[i]? = some (Tm.nod 11 [x.code (bdI k nm l v i)])
 | [], _, _, v, i, x, h => by simp at h
 | y :: ys, k, nm, v, 0, x, h => by simp at h; subst h; simp [tmsAll, bdI]
 | y :: ys, k, nm, v, i + 1, x, h => by
   simp only [tmsAll, List.getElem?_cons_succ]
   rw [spl_get ys _ i x (by simpa using h)]
   simp [bdI, hdLate]
theorem keep_get : ∀ (l : List Tm) (k : Int) (nm : ByteArray) (v : List Bd) (i : Nat) (x : Tm), l[i + 1]? = some x → (tmsKeep l k nm v)[i + 1]? = some (x.code (bdI k nm l v (i + 1)))
 | [], _, _, v, i, x, h => by simp at h
 | y :: ys, k, nm, v, i, x, h => by
   simp only [tmsKeep, List.getElem?_cons_succ]
   rw [code_get ys _ i x (by simpa using h)]
   simp [bdI, hdLate]
theorem set_mid {a c : List D} {x y : D} : (a ++ x :: c).set a.length y = a ++ y :: c := by simp
/-- the fields of a node that has neither number nor types nor other name -/
theorem node_bare {k n : Int} {nm ot : ByteArray} {ty re : Ty} {l : List Tm} (h : Node k nm ot n ty re l) (hk : k = 5 ∨ k = 8) : ot = bytes [] ∧ n = 0 ∧ ty = .mk 0 [] ∧ re = .mk 0 [] ∧ (k = 5 → nm = bytes []) := by
 have hf := h.f
 have z : ∀ t : Ty, t.zero = true → t = .mk 0 [] := fun t ht => by
  obtain ⟨kk, ll⟩ := t
  simp only [Ty.zero, Ty.k, Ty.as, Bool.and_eq_true, beq_iff_eq] at ht
  have : ll = [] := List.eq_nil_of_length_eq_zero (by omega)
  rw [ht.1, this]
 have e1 : typedK k = false := by rcases hk with rfl | rfl <;> rfl
 have e2 : (k == 9) = false := by rcases hk with rfl | rfl <;> rfl
 simp only [fieldsOk, e1, e2, Bool.and_eq_true, Bool.false_or, inB_iff] at hf
 obtain ⟨_, h1, _, h2, h3, h4⟩ := hf
 rw [if_neg (by omega), if_neg (by omega)] at h3
 rcases hk with rfl | rfl
 ·simp [namesOk] at h4
  exact ⟨h4.2, by omega, z _ h1, z _ h2, fun _ => h4.1⟩
 ·simp [namesOk] at h4
  exact ⟨h4.2, by omega, z _ h1, z _ h2, fun h => by omega⟩
/-- the contract of l17Code at these terms -/
def CodeC (f : FuncId) (t : Tm) : Prop := ∀ (d : D), t.Is d → t.ok = true → t.isB = true → ∀ (v : List Bd) (a : Option Addr) (c : Nat), v.length + 4 * t.cnt ≤ 1073741824 → Cop f 9 [.dg 9 d, .sv a 2 (v.map bdD) c] (t.code v).Is
theorem c_l17All {k : Int} {nm ot : ByteArray} {n0 : Int} {ty re : Ty} {l : List Tm} (ih : ∀ t ∈ l, CodeC 40 t) {d : D} (hd : (Tm.mk k nm ot n0 ty re l).Is d) (hok : (Tm.mk k nm ot n0 ty re l).ok = true) (hB : (Tm.mk k nm ot n0 ty re l).isB = true)
  (v : List Bd) (a : Option Addr) (c : Nat) (hc : v.length + 4 * (Tm.mk k nm ot n0 ty re l).cnt ≤ 1073741824) (hl8 : k = 8 → hdLate l v = true) :
  Cop 93 9 [.dg 9 d, .sv a 2 (v.map bdD) c] (Tm.nod 10 [.mk k nm ot n0 ty re (tmsAll l k nm v)]).Is := fun N Q hQ => by
 have node := node_of hok
 simp only [Tm.isB, Bool.and_eq_true] at hB
 have hd0 := hd
 obtain ⟨t0, t1, r0, r1, a1, es, c1, rfl, hh, hlen, hes⟩ := Tm.is_mk.1 hd
 have hac := all_cnt l k nm v
 simp only [Tm.cnt] at hc
 have hlc := tms_len_cnt l
 refine w_spec_l17All N _ a _ c Q fun _ _ N1 hN1 => ?_
 refine c_l5Copy _ _ hd0 (by simp only [Tm.cnt]; omega) N1 _ ?_
 intro x4 x5 x6 x7 es' c' N2 hN2 hh' hes' ho' _ _
 have hl' := hes'.len
 refine up hes hlen (fun i xs => ∀ (done rest : List D) (m q : Nat) (N' : Nat), N ≤ N' → All2 Tm.Is ((tmsAll l k nm v).take i) done → done.length = i → rest.length = xs.length → m = (done ++ rest).length →
  L_spec_l17All_3 Q N a (v.map bdD) c i (.ag [.lit (.int .i64 k), .lit (.string nm), .lit (.string ot), .lit (.int .i64 n0), t0, t1, r0, r1, .sl a1 9 es c1]) 0 (bytes []) (bytes []) 0 0 none [] 0 0 none [] 0 none [] 0 k nm ot n0 x4 x5 x6 x7 m q (done ++ rest) q N') ?_ ?_ [] es' es'.length c' N2 (by omega) rfl rfl (by omega) rfl
 ·intro i hlt hi done rest m q N' hN' hd hdl hr hm
  have hr0 : rest = [] := List.eq_nil_of_length_eq_zero (by simpa using hr)
  subst hr0
  refine l_spec_l17All_3 _ _ _ _ _ _ _ _ _ _ _ _ _ _ _ _ _ _ _ _ _ _ _ _ _ _ _ _ _ _ _ _ _ _ _ ⟨_, _, _, rfl, ?_⟩
  rw [List.append_nil] at hm ⊢
  rw [List.take_of_length_le (by rw [all_len]; have := hes.len; omega)] at hd
  rw [hlt]
  refine ⟨⟨hm, rfl⟩, ⟨hm, rfl⟩, fun a5 N3 hN3 hf N4 hN4 => ?_⟩
  refine c_l17Quote (.mk k nm ot n0 ty re (tmsAll l k nm v)) _ (Tm.is_mk.2 ⟨_, _, _, _, _, _, _, rfl, hh', by have := hes.len; omega, hd⟩) (by simp only [Tm.cnt]; omega) N4 _ fun d' N5 hN5 hd' ho5 _ _ N6 hN6 => ?_
  exact hQ _ _ (by omega) hd' (ho5.mono (by omega) hN6)
 ·intro i x xs hat _ ih2 done rest m q N' hN' hd hdl hr hm
  have hb := hat.b
  have hxc := tms_mem_cnt hat.m
  cases rest with
  | nil => simp at hr
  | cons y rest =>
    subst hdl
    have hxx := code_cnt x (bdI k nm l v done.length)
    have hx3 := x.cnt3
    have step : ∀ (N3 : Nat), N' ≤ N3 → ∀ (a7 : Option Addr) (c7 : Nat), ∀ (Q' : QT [.ag 9]), (∀ d' N4, N3 ≤ N4 → (x.code (bdI k nm l v done.length)).Is d' → Own N3 N4 d' → Q' d' N4) →
      ACalls prog 40 [.ag 9] [.dg 9 (es.getD done.length default), .sv a7 2 ((bdI k nm l v done.length).map bdD) c7] N3 Q' := fun N3 hN3 a7 c7 Q' hQ' => by
     refine ih x hat.m _ hat.r (node.sub x hat.m) (tmsB_mem hB.1 hat.m) _ a7 c7 ?_ N3 Q' hQ'
     have h5 : (bdI k nm l v done.length).length ≤ v.length + 1 := by unfold bdI bdE; (repeat' split) <;> simp
     have := ty.cnt_pos
     omega
    have close : ∀ (d' : D) (N4 N5 : Nat), N' ≤ N4 → N4 ≤ N5 → (x.code (bdI k nm l v done.length)).Is d' → ∀ Q' : QT [.ag 9], (∀ d2 N6, N5 ≤ N6 → (Tm.nod 11 [x.code (bdI k nm l v done.length)]).Is d2 → Q' d2 N6) → ACalls prog 66 [.ag 9] [.dg 9 d'] N5 Q' := fun d' N4 N5 h4 h5 hd' Q' hQ' =>
     c_l17Splice _ d' hd' (by omega) N5 Q' fun d2 N6 hN6 hd2 _ => hQ' d2 N6 hN6 hd2
    have next : ∀ (d2 : D) (N6 : Nat), N ≤ N6 → (Tm.nod 11 [x.code (bdI k nm l v done.length)]).Is d2 → (0 ≤ (done.length : Int) ∧ (done.length : Int) < (m : Int) ∧ (0 + done.length : Nat) < (done ++ y :: rest).length) ∧ (0 + done.length : Nat) < (done ++ y :: rest).length ∧
      L_spec_l17All_3 Q N a (v.map bdD) c (IntKind.i64.wrap ((done.length : Int) + 1)) (.ag [.lit (.int .i64 k), .lit (.string nm), .lit (.string ot), .lit (.int .i64 n0), t0, t1, r0, r1, .sl a1 9 es c1]) 0 (bytes []) (bytes []) 0 0 none [] 0 0 none [] 0 none [] 0 k nm ot n0 x4 x5 x6 x7 m q (List.set (done ++ y :: rest) (0 + done.length : Nat) d2) q N6 := fun d2 N6 hN6 hd2 => by
     have hlm : (done ++ y :: rest).length = done.length + rest.length + 1 := by simp; omega
     refine ⟨⟨by omega, by omega, by omega⟩, by omega, ?_⟩
     rw [hat.w, Nat.zero_add, set_mid]
     have e : done ++ d2 :: rest = (done ++ [d2]) ++ rest := by simp
     rw [e]
     exact ih2 (done ++ [d2]) rest m q N6 hN6 (by rw [take_at (all_get l k nm v _ x hat.g)]; exact hd.snoc hd2) (by simp) (by simpa using hr) (by rw [hm]; simp)
    refine l_spec_l17All_3 _ _ _ _ _ _ _ _ _ _ _ _ _ _ _ _ _ _ _ _ _ _ _ _ _ _ _ _ _ _ _ _ _ _ _ ⟨_, _, _, rfl, ?_⟩
    rw [hat.lt]
    simp only [Int.toNat_natCast]
    refine ⟨_, rfl, Br.beq (fun hk => Br.beq (fun h1 => ⟨_, rfl, fun N3 hN3 => ?_⟩) fun h1 => ⟨_, _, _, rfl, ⟨by omega, by omega⟩, fun N3 hN3 => ?_⟩) fun hk => ⟨_, _, _, rfl, ⟨by omega, by omega⟩, fun N3 hN3 => ?_⟩⟩
    ·have eI : bdI k nm l v done.length = v ++ [(nm, true)] := by unfold bdI bdE; rw [if_neg (by omega), if_pos hk, hl8 hk]
     refine c_l16With v (by omega) a c nm true N3 _ fun a7 c7 N4 hN4 _ _ => ⟨_, _, _, rfl, ⟨by omega, by omega⟩, fun N5 hN5 => ?_⟩
     rw [← eI]
     refine step N5 (by omega) a7 c7 _ fun d' N6 hN6 hd' _ _ _ N7 hN7 => close d' N6 N7 (by omega) hN7 hd' _ fun d2 N8 hN8 hd2 _ _ => next d2 N8 (by omega) hd2
    ·have eI : bdI k nm l v done.length = v := by
      unfold bdI bdE
      by_cases h0 : done.length = 0
      ·rw [if_pos h0]
      ·exfalso
       have har := node.ar
       subst hk
       rw [show arOf 8 nm = 2 from rfl] at har
       have := hes.len
       omega
     have := step N3 (by omega) a c
     rw [eI] at this hxx close next
     refine this _ fun d' N6 hN6 hd' _ _ _ N7 hN7 => close d' N6 N7 (by omega) hN7 hd' _ fun d2 N8 hN8 hd2 _ _ => next d2 N8 (by omega) hd2
    ·have eI : bdI k nm l v done.length = v := by
      unfold bdI bdE
      rw [if_neg hk]; simp
     have := step N3 (by omega) a c
     rw [eI] at this hxx close next
     refine this _ fun d' N6 hN6 hd' _ _ _ N7 hN7 => close d' N6 N7 (by omega) hN7 hd' _ fun d2 N8 hN8 hd2 _ _ => next d2 N8 (by omega) hd2
end Go.Proofs.YtfkmegifjiiclaaGreat

/- The code for a body: the reference. -/
set_option linter.unusedVariables false
set_option linter.unusedSimpArgs false
namespace Go.Proofs.YtfkmegifjiiclaaGreat
open Go Go.Proofs Go.Proofs.Tryz Go.IntWalk

theorem all2_three {t u x : Tm} {d e f : D} (h : t.Is d) (g : u.Is e) (i : x.Is f) : All2 Tm.Is [t, u, x] [d, e, f] := ⟨d, [e, f], rfl, h, all2_two g i⟩
theorem bodyK_cases {k : Int} (h : bodyK k = true) : k = 1 ∨ k = 2 ∨ k = 3 ∨ k = 4 ∨ k = 5 ∨ k = 8 := by
 simp only [bodyK, Bool.or_eq_true, inB_iff, beq_iff_eq] at h
 omega
theorem c_l17Code : ∀ (t : Tm), CodeC 40 t := by
 refine Tm.ind fun k nm ot n0 ty re l ih d hd hok hB v a c hc N Q hQ => ?_
 have hd0 := hd
 have hok0 := hok
 have hB0 := hB
 have hc0 := hc
 have node := node_of hok
 simp only [Tm.isB, Bool.and_eq_true] at hB
 obtain ⟨t0, t1, r0, r1, a1, es, c1, rfl, hh, hlen, hes⟩ := Tm.is_mk.1 hd
 simp only [Tm.cnt] at hc
 have p1 := ty.cnt_pos
 have p2 := re.cnt_pos
 have hall : (k = 8 → hdLate l v = true) → (Tm.mk k nm ot n0 ty re l).code v = Tm.nod 10 [.mk k nm ot n0 ty re (tmsAll l k nm v)] → ∀ N1, N ≤ N1 → ∀ Q' : QT [.ag 9], (∀ d' N2, N1 ≤ N2 → (∀ N3, N2 ≤ N3 → Q d' N3) → Q' d' N2) →
   ACalls prog 93 [.ag 9] [.dg 9 (.ag [.lit (.int .i64 k), .lit (.string nm), .lit (.string ot), .lit (.int .i64 n0), t0, t1, r0, r1, .sl a1 9 es c1]), .sv a 2 (v.map bdD) c] N1 Q' := fun h8 he N1 hN1 Q' hQ' => by
  refine c_l17All ih hd0 hok0 hB0 v a c hc0 h8 N1 Q' fun d' N2 hN2 hd' ho => hQ' d' N2 hN2 fun N3 hN3 => hQ _ _ (by omega) (by rw [he]; exact hd') (ho.mono hN1 hN3)
 refine w_spec_l17Code N _ a _ c Q fun _ _ N1 hN1 => ?_
 refine c_l16Late _ _ hd0 hok0 v a c (by omega) N1 _ fun N2 hN2 _ => Br.not (fun hb => ⟨⟨rfl, rfl⟩, fun a2 _ N3 hN3 hbel => ?_⟩) fun hb => ⟨_, rfl, Br.beq (fun hk N3 hN3 => ?_) fun hk => ⟨_, rfl, ?_⟩⟩
 ·refine c_l5Node 13 (all2_one hd0) (by simp) (by simp only [List.mem_singleton, forall_eq]; omega) a2 1 N3 _ fun d' N4 hN4 hd' ho _ => ⟨off_own hbel ho, fun _ N5 hN5 => ?_⟩
  refine hQ _ _ (by omega) ?_ (ho.mono (by omega) hN5)
  simp only [Tm.code, hb, if_true]
  exact hd'
 ·refine c_l17Quote _ _ hd0 (by omega) N3 _ fun d' N4 hN4 hd' ho _ _ N5 hN5 => ?_
  refine hQ _ _ (by omega) ?_ (ho.mono (by omega) hN5)
  simp only [Tm.code, hb, Bool.true_eq_false, if_false, if_pos hk]
  exact hd'
 ·have hcode : (Tm.mk k nm ot n0 ty re l).code v = if k ≠ 4 ∧ hdLate l v = false then .mk k nm ot n0 ty re (tmsKeep l k nm v) else Tm.nod 10 [.mk k nm ot n0 ty re (tmsAll l k nm v)] := by
   simp only [Tm.code, hb, Bool.true_eq_false, if_false, if_neg hk]
  have kc := bodyK_cases hB.2
  refine Br.beq (fun h5 => ?_) fun h5 => ⟨_, rfl, Br.beq (fun h8 => ?_) fun h8 N3 hN3 => ?_⟩
  ·have har := node.ar
   subst h5
   rw [show arOf 5 nm = 3 from rfl] at har
   obtain ⟨x0, x1, x2, d0, d1, d2, rfl, rfl, h0, h1, h2⟩ := three_parts hes har
   obtain ⟨rfl, rfl, rfl, rfl, hnm⟩ := node_bare node (.inl rfl)
   obtain rfl := hnm rfl
   simp only [tmsCnt] at hc
   have q0 := x0.cnt3; have q1 := x1.cnt3; have q2 := x2.cnt3
   have g1 := code_cnt x1 v
   have g2 := code_cnt x2 v
   have m0 : x0 ∈ [x0, x1, x2] := by simp
   have m1 : x1 ∈ [x0, x1, x2] := by simp
   have m2 : x2 ∈ [x0, x1, x2] := by simp
   refine ⟨_, _, _, rfl, ⟨by decide, by simp⟩, fun N3 hN3 => ?_⟩
   refine c_l16Late x0 d0 h0 (node.sub x0 m0) v a c (by omega) N3 _ fun N4 hN4 _ => Br.not (fun hb0 => ⟨_, _, _, rfl, ⟨by decide, by simp⟩, _, _, _, rfl, ⟨by decide, by simp⟩, _, _, _, rfl, ⟨by decide, by simp⟩, fun N5 hN5 => ?_⟩) fun hb0 => ⟨_, rfl, Br.beq (fun h => absurd h (by decide)) fun _ N5 hN5 => ?_⟩
   ·refine ih x1 m1 d1 h1 (node.sub x1 m1) (tmsB_mem hB.1 m1) v a c (by omega) N5 _ fun e1 N6 hN6 he1 ho1 _ _ N7 hN7 => ?_
    refine ih x2 m2 d2 h2 (node.sub x2 m2) (tmsB_mem hB.1 m2) v a c (by omega) N7 _ fun e2 N8 hN8 he2 ho2 _ _ => ⟨⟨rfl, rfl⟩, fun a5 _ N9 hN9 hbel => ?_⟩
    refine c_l5Node 5 (all2_three h0 he1 he2) (by simp) (by simp only [List.mem_cons, List.not_mem_nil, or_false, forall_eq_or_imp, forall_eq]; omega) a5 3 N9 _ fun d' N10 hN10 hd' ho _ => ⟨off_own hbel ho, fun _ N11 hN11 => ?_⟩
    refine hQ _ _ (by omega) ?_ (ho.mono (by omega) hN11)
    rw [hcode, if_pos ⟨by decide, hb0⟩]
    simp only [tmsKeep, tmsCode, bdE]
    rw [if_neg (by decide)]
    exact hd'
   ·exact hall (fun h => absurd h (by decide)) (by rw [hcode, if_neg (by simp [hdLate, hb0])]) N5 (by omega) _ fun d' N6 hN6 hq _ _ N7 hN7 => hq N7 hN7
  ·have har := node.ar
   subst h8
   rw [show arOf 8 nm = 2 from rfl] at har
   obtain ⟨x0, x1, d0, d1, rfl, rfl, h0, h1⟩ := two_parts hes har
   obtain ⟨rfl, rfl, rfl, rfl, _⟩ := node_bare node (.inr rfl)
   simp only [tmsCnt] at hc
   have q0 := x0.cnt3; have q1 := x1.cnt3
   have g1 := code_cnt x1 (v ++ [(nm, false)])
   have m0 : x0 ∈ [x0, x1] := by simp
   have m1 : x1 ∈ [x0, x1] := by simp
   refine ⟨_, _, _, rfl, ⟨by decide, by simp⟩, fun N3 hN3 => ?_⟩
   refine c_l16Late x0 d0 h0 (node.sub x0 m0) v a c (by omega) N3 _ fun N4 hN4 _ => Br.not (fun hb0 => ⟨_, rfl, _, _, _, rfl, ⟨by decide, by simp⟩, _, _, _, rfl, ⟨by decide, by simp⟩, _, rfl, fun N5 hN5 => ?_⟩) fun hb0 N5 hN5 => ?_
   ·refine c_l16With v (by omega) a c nm false N5 _ fun a7 c7 N6 hN6 _ _ N7 hN7 => ?_
    refine ih x1 m1 d1 h1 (node.sub x1 m1) (tmsB_mem hB.1 m1) _ a7 c7 (by rw [List.length_append, List.length_singleton]; omega) N7 _ fun e1 N8 hN8 he1 ho1 _ _ N9 hN9 => ?_
    refine c_l5Let nm hh.nm x0 _ d0 e1 h0 he1 (by omega) (by omega) N9 _ fun d' N10 hN10 hd' ho _ _ N11 hN11 => ?_
    refine hQ _ _ (by omega) ?_ (ho.mono (by omega) hN11)
    rw [hcode, if_pos ⟨by decide, hb0⟩]
    simp only [tmsKeep, tmsCode, bdE, if_true]
    rw [show x0.late v = false from hb0]
    exact hd'
   ·exact hall (fun _ => hb0) (by rw [hcode, if_neg (by simp [hdLate, hb0])]) N5 (by omega) _ fun d' N6 hN6 hq _ _ N7 hN7 => hq N7 hN7
  ·refine hall (fun h => absurd h h8) ?_ N3 (by omega) _ fun d' N6 hN6 hq _ _ N7 hN7 => hq N7 hN7
   rw [hcode, if_neg]
   intro ⟨h4, hl⟩
   have har := node.ar
   have : l = [] := by
    rcases kc with h | h | h | h | h | h
    ·exact absurd h hk
    ·subst h; rw [show arOf 2 nm = 0 from rfl] at har; exact List.eq_nil_of_length_eq_zero (by omega)
    ·subst h; rw [show arOf 3 nm = 0 from rfl] at har; exact List.eq_nil_of_length_eq_zero (by omega)
    ·exact absurd h h4
    ·exact absurd h h5
    ·exact absurd h h8
   subst this
   simp [hdLate] at hl
end Go.Proofs.YtfkmegifjiiclaaGreat

/- The code for a body: the program. -/
set_option linter.unusedVariables false
set_option linter.unusedSimpArgs false
namespace Go.Proofs.YtfkmegifjiiclaaGreat
open Go Go.Proofs Go.Proofs.Tryz Go.IntWalk

theorem Fresh.mono {N0 N1 N M : Nat} {a : Option Addr} {ds : List D} (h : Fresh N0 N a ds) (h1 : N1 ≤ N0) (h2 : N ≤ M) : Fresh N1 M a ds :=
 ⟨fun ad h' => Nat.le_trans h1 (h.lo ad h'), fun ad h' => Nat.lt_of_lt_of_le (h.hi ad h') h2, h.off, h.ap⟩
theorem upF {α : Type} {R : α → D → Prop} {l : List α} {es : List D} (h : All2 R l es) (hlen : es.length ≤ 4611686018427387904) (P : Nat → List α → Prop)
  (hnil : ∀ n : Nat, decide ((n : Int) < (es.length : Int)) = false → n = es.length → P n []) (hcons : ∀ (i : Nat) x xs, At R l es i x → l.drop (i + 1) = xs → P (i + 1) xs → P i (x :: xs)) : ∀ i, i ≤ l.length → P i (l.drop i) := by
 have hl := h.len
 have key : ∀ m i, i + m = l.length → P i (l.drop i) := by
  intro m
  induction m with
  | zero => intro i h2; rw [List.drop_of_length_le (by omega)]; exact hnil i (by simp; omega) (by omega)
  | succ m ih =>
    intro i h2
    have hlt : i < l.length := by omega
    rw [List.drop_eq_getElem_cons hlt]
    have hg : l[i]? = some l[i] := List.getElem?_eq_getElem hlt
    refine hcons i _ _ ⟨decide_eq_true (by omega), ⟨by omega, by omega⟩, ?_, h.get hg, List.getElem_mem hlt, hg⟩ rfl (ih (i + 1) (by omega))
    rw [i64_in _ (by omega)]; simp
 exact fun i hi => key (l.length - i) i (by omega)
theorem nod_is {k : Int} {a : Option Addr} {es : List D} {c : Nat} {l : List Tm} (h : All2 Tm.Is l es) (hl : es.length ≤ 4611686018427387904) :
  (Tm.nod k l).Is (.ag [.lit (.int .i64 k), .lit (.string (bytes [])), .lit (.string (bytes [])), .lit (.int .i64 0), .lit (.int .i64 0), .sl none 2 [] 0, .lit (.int .i64 0), .sl none 2 [] 0, .sl a 9 es c]) :=
 Tm.is_mk.2 ⟨_, _, _, _, _, _, _, rfl, ⟨by decide, by decide, is_nil _, is_nil _⟩, hl, h⟩
theorem nod_own {k : Int} {a : Option Addr} {es ds : List D} {c : Nat} {N0 N N3 : Nat} (h : OwnL N0 N es) (hf : Fresh N0 N3 a (.ag es :: ds)) (hN : N ≤ N3) :
  Own N0 N3 (.ag [.lit (.int .i64 k), .lit (.string (bytes [])), .lit (.string (bytes [])), .lit (.int .i64 0), .lit (.int .i64 0), .sl none 2 [] 0, .lit (.int .i64 0), .sl none 2 [] 0, .sl a 9 es c]) :=
 own_ag (ownL_lit (ownL_lit (ownL_lit (ownL_lit (ownL_lit (ownL_sn (ownL_lit (ownL_sn (ownL_one (own_sl h hf hN)))))))))) 
theorem own_nod0 {N N' : Nat} (k : Int) : Own N N' (.ag [.lit (.int .i64 k), .lit (.string (bytes [])), .lit (.string (bytes [])), .lit (.int .i64 0), .lit (.int .i64 0), .sl none 2 [] 0, .lit (.int .i64 0), .sl none 2 [] 0, .sl none 9 [] 0]) :=
 own_ag (ownL_lit (ownL_lit (ownL_lit (ownL_lit (ownL_lit (ownL_sn (ownL_lit (ownL_sn (ownL_one ⟨by simp [D.foot, footL], ⟨by simp, trivial⟩, by simp [D.foot, footL], by simp [D.foot, footL]⟩))))))))) 
theorem c_quoted (t : Tm) (d : D) (hd : t.Is d) (N0 N : Nat) (h0 : N0 ≤ N) (ho : Own N0 N d) (Q : QT [.ag 9]) (hQ : ∀ d' N', N ≤ N' → (Tm.nod 10 [t]).Is d' → Own N0 N' d' → Q d' N') : ACalls prog 68 [.ag 9] [.dg 9 d] N Q := by
 refine w_impl_quoted N _ Q fun _ => ⟨⟨rfl, rfl⟩, fun a N1 hN1 hf N2 hN2 => ?_⟩
 refine w_impl_tmForm N2 10 a [d] 1 _ fun _ N3 hN3 _ _ N4 hN4 => ?_
 exact hQ _ _ (by omega) (nod_is (all2_one hd) (by simp)) ((nod_own (ownL_one ho) (hf.mono h0 (Nat.le_refl _)) hN1).mono (Nat.le_refl _) (by omega))
theorem c_spliced (t : Tm) (d : D) (hd : t.Is d) (N0 N : Nat) (h0 : N0 ≤ N) (ho : Own N0 N d) (Q : QT [.ag 9]) (hQ : ∀ d' N', N ≤ N' → (Tm.nod 11 [t]).Is d' → Own N0 N' d' → Q d' N') : ACalls prog 69 [.ag 9] [.dg 9 d] N Q := by
 refine w_impl_spliced N _ Q fun _ => ⟨⟨rfl, rfl⟩, fun a N1 hN1 hf N2 hN2 => ?_⟩
 refine w_impl_tmForm N2 11 a [d] 1 _ fun _ N3 hN3 _ _ N4 hN4 => ?_
 exact hQ _ _ (by omega) (nod_is (all2_one hd) (by simp)) ((nod_own (ownL_one ho) (hf.mono h0 (Nat.le_refl _)) hN1).mono (Nat.le_refl _) (by omega))
theorem keep_len : ∀ (l : List Tm) (k : Int) (nm : ByteArray) (v : List Bd), (tmsKeep l k nm v).length = l.length
 | [], _, _, _ => by simp only [tmsKeep]
 | x :: xs, k, nm, v => by simp only [tmsKeep, List.length_cons, code_len xs]
theorem inside_map {k : Int} {nm : ByteArray} {l : List Tm} {v : List Pl} {i : Nat} : (insideP k nm (hdLate l (v.map plB)) v i).map plB = bdI k nm l (v.map plB) i := by
 unfold insideP bdI bdE
 by_cases hi : i = 0
 ·simp [hi]
 ·by_cases hk : k = 8 <;> simp [hi, hk, plB]
def CodeP (t : Tm) : Prop := ∀ (d : D), t.Is d → t.ok = true → t.isB = true → ∀ (v : List Pl) (a : Option Addr) (c : Nat), v.length + 4 * t.cnt ≤ 1073741824 → Cop 47 9 [.sv a 3 (v.map plD) c, .dg 9 d] (t.code (v.map plB)).Is
theorem c_code : ∀ (t : Tm), CodeP t := by
 refine Tm.ind fun k nm ot n0 ty re l ih d hd hok hB v a c hc N Q hQ => ?_
 have hd0 := hd
 have hok0 := hok
 have node := node_of hok
 simp only [Tm.isB, Bool.and_eq_true] at hB
 obtain ⟨t0, t1, r0, r1, a1, es, c1, rfl, hh, hlen, hes⟩ := Tm.is_mk.1 hd
 simp only [Tm.cnt] at hc
 have p1 := ty.cnt_pos
 have p2 := re.cnt_pos
 have hlc := tms_len_cnt l
 have hl := hes.len
 have kc := bodyK_cases hB.2
 have hdyn := fun (N1 : Nat) (Q' : QT [.bool]) => c_isDynamic _ _ hd0 hok0 v a c (by simp only [Tm.cnt]; omega) N1 Q'
 -- the first part, where there is one
 have hfirst : l ≠ [] → ∀ (a : Option Addr) (c : Nat), RetB 102 [.sv a 3 (v.map plD) c, .dg 9 (es.getD 0 default)] (hdLate l (v.map plB)) := fun hne a c => by
  cases l with
  | nil => exact absurd rfl hne
  | cons x0 rest =>
    have m0 : x0 ∈ x0 :: rest := by simp
    have := tms_mem_cnt m0
    exact c_isDynamic x0 _ (hes.get (i := 0) rfl) (node.sub x0 m0) v a c (by omega)
 -- the code of the part at a place
 have part : ∀ (i : Nat) (x : Tm), At Tm.Is l es i x → ∀ (N1 : Nat) (ad ad1 : Addr) (Q' : QT [.ag 9]), (∀ d' N2, N1 ≤ N2 → (x.code (bdI k nm l (v.map plB) i)).Is d' → Own N1 N2 d' → Q' d' N2) →
   ACalls prog 105 [.ag 9] [.int .i64 i, .pd ad 0 (.sl a 3 (v.map plD) c), .pd ad1 9 (.ag [.lit (.int .i64 k), .lit (.string nm), .lit (.string ot), .lit (.int .i64 n0), t0, t1, r0, r1, .sl a1 9 es c1])] N1 Q' := fun i x hat N1 ad ad1 Q' hQ' => by
  have hb := hat.b
  have hxc := tms_mem_cnt hat.m
  have hx3 := x.cnt3
  have hne : l ≠ [] := fun h => by have := hat.m; rw [h] at this; simp at this
  have hne2 : es ≠ [] := fun h => by rw [h] at hl; exact hne (List.eq_nil_of_length_eq_zero (by simpa using hl.symm))
  refine w_impl_places_code_1_i0 N1 i ad _ ad1 _ Q' ⟨_, _, _, rfl, _, _, _, rfl, ⟨by omega, by omega⟩, fun N2 hN2 => ?_⟩
  refine c_inside (k := k) (nm := nm) (ot := ot) (n0 := n0) (t0 := t0) (t1 := t1) (r0 := r0) (r1 := r1) (a1 := a1) (es := es) (c1 := c1) v (by omega) a c i (hdLate l (v.map plB)) (fun _ => hne2) (fun _ => hfirst hne a c) N2 _ fun a2 c2 N3 hN3 _ _ N4 hN4 => ?_
  rw [Int.toNat_natCast]
  refine ih x hat.m _ hat.r (node.sub x hat.m) (tmsB_mem hB.1 hat.m) _ a2 c2 ?_ N4 _ fun d' N5 hN5 hd' ho _ _ N6 hN6 => ?_
  ·have h5 : (insideP k nm (hdLate l (v.map plB)) v i).length ≤ v.length + 1 := by unfold insideP; split <;> simp
   omega
  ·rw [inside_map] at hd'
   exact hQ' _ _ (by omega) hd' (ho.mono (by omega) hN6)
 refine w_impl_places_code N a _ c _ Q fun _ _ N1 hN1 => ?_
 refine hdyn N1 _ fun N2 hN2 _ => Br.not (fun hb N3 hN3 => ?_) fun hb => ⟨_, rfl, Br.beq (fun hk N3 hN3 => ?_) fun hk => ⟨_, rfl, ?_⟩⟩
 ·refine c_ownTm _ _ hd0 (by simp only [Tm.cnt]; omega) N3 _ fun d' N4 hN4 hd' ho _ _ => ⟨⟨rfl, rfl⟩, fun a2 N5 hN5 hf N6 hN6 => ?_⟩
  refine w_impl_tmForm N6 13 a2 [d'] 1 _ fun _ N7 hN7 _ _ N8 hN8 => ?_
  refine hQ _ _ (by omega) ?_ ((nod_own (ownL_one (ho.mono (by omega) (Nat.le_refl _))) hf hN5).mono (Nat.le_refl _) (by omega))
  simp only [Tm.code, hb, if_true]
  exact nod_is (all2_one hd') (by simp)
 ·refine c_ownTm _ _ hd0 (by simp only [Tm.cnt]; omega) N3 _ fun d' N4 hN4 hd' ho _ _ N5 hN5 => ?_
  refine c_quoted _ _ hd' N N5 (by omega) (ho.mono (by omega) hN5) _ fun d2 N6 hN6 hd2 ho2 _ _ N7 hN7 => ?_
  refine hQ _ _ (by omega) ?_ (ho2.mono (Nat.le_refl _) hN7)
  simp only [Tm.code, hb, Bool.true_eq_false, if_false, if_pos hk]
  exact hd2
 ·have hcode : (Tm.mk k nm ot n0 ty re l).code (v.map plB) = if k ≠ 4 ∧ hdLate l (v.map plB) = false then .mk k nm ot n0 ty re (tmsKeep l k nm (v.map plB)) else Tm.nod 10 [.mk k nm ot n0 ty re (tmsAll l k nm (v.map plB))] := by
   simp only [Tm.code, hb, Bool.true_eq_false, if_false, if_neg hk]
  -- all parts spliced
  have full : ¬ (k ≠ 4 ∧ hdLate l (v.map plB) = false) → ∀ N3, N ≤ N3 → L_impl_places_code_15 Q N 0 0 (es.length : Int) 0 (.ag [.lit (.int .i64 k), .lit (.string nm), .lit (.string ot), .lit (.int .i64 n0), t0, t1, r0, r1, .sl a1 9 es c1]) 0 (bytes []) (bytes []) 0 0 none [] 0 0 none [] 0 none [] 0 a (v.map plD) c [] 0 N3 := fun hno N3 hN3 => by
   refine up hes hlen (fun i xs => ∀ (done : List D) (q N' : Nat), N ≤ N' → All2 Tm.Is ((tmsAll l k nm (v.map plB)).take i) done → done.length = i → OwnL N N' done →
    L_impl_places_code_15 Q N done.length q (es.length : Int) i (.ag [.lit (.int .i64 k), .lit (.string nm), .lit (.string ot), .lit (.int .i64 n0), t0, t1, r0, r1, .sl a1 9 es c1]) 0 (bytes []) (bytes []) 0 0 none [] 0 0 none [] 0 none [] 0 a (v.map plD) c done q N') ?_ ?_ [] 0 N3 hN3 rfl rfl ownL_nil
   ·intro i hlt hi done q N' hN' hd hdl ho
    refine l_impl_places_code_15 _ _ _ _ _ _ _ _ _ _ _ _ _ _ _ _ _ _ _ _ _ _ _ _ _ _ _ _ ?_
    rw [List.take_of_length_le (by rw [all_len]; omega)] at hd
    rw [hlt]
    refine ⟨⟨rfl, rfl⟩, ⟨rfl, rfl⟩, fun a2 N5 hN5 hf N6 hN6 => ?_⟩
    refine c_node hh (by omega) (by omega) hd (by omega) a2 q N N6 (by omega) ((own_sl ho hf hN5).mono (Nat.le_refl _) hN6) _ fun d' N7 hN7 hd' ho' _ _ N8 hN8 => ?_
    refine c_quoted _ _ hd' N N8 (by omega) (ho'.mono (Nat.le_refl _) hN8) _ fun d2 N9 hN9 hd2 ho2 _ _ N10 hN10 => ?_
    exact hQ _ _ (by omega) (by rw [hcode, if_neg hno]; exact hd2) (ho2.mono (Nat.le_refl _) hN10)
   ·intro i x xs hat _ ih2 done q N' hN' hd hdl ho
    have hb2 := hat.b
    refine l_impl_places_code_15 _ _ _ _ _ _ _ _ _ _ _ _ _ _ _ _ _ _ _ _ _ _ _ _ _ _ _ _ ?_
    rw [hat.lt]
    intro ad _ ad1 _ N5 hN5 hbel
    refine part i x hat N5 ad ad1 _ fun d' N6 hN6 hd' ho' _ => ⟨off_own hbel ho', fun _ N7 hN7 => ?_⟩
    refine c_spliced _ _ hd' N5 N7 (by omega) (ho'.mono (Nat.le_refl _) hN7) _ fun d2 N8 hN8 hd2 ho2 _ _ => ⟨⟨rfl, rfl⟩, by unfold apBound; rw [List.length_append]; simp only [List.length_cons, List.length_nil]; omega, fun c3 => ?_⟩
    rw [hat.w]
    refine ih2 _ _ _ (by omega) (by rw [take_at (all_get l k nm _ _ x hat.g)]; exact hd.snoc hd2) (by simp [hdl]) (ownL_append (ho.mono (Nat.le_refl _) hN5) (ownL_one ho2) (by omega) (by omega))
  refine Br.bne (fun h4 => ?_) fun h4 => ⟨_, _, _, rfl, full (by simp [h4]) N2 (by omega)⟩
  have hne : l ≠ [] := fun h0 => by
   subst h0
   have har := node.ar
   have hlt : (Tm.mk k nm ot n0 ty re []).late (v.map plB) = false := by
    simp only [Tm.late, tmsLate, tmsLet, if_neg hk]; simp
   rw [hb] at hlt
   cases hlt
  have hlp : 0 < es.length := by rw [hl]; exact List.length_pos_iff.2 hne
  refine ⟨_, _, _, rfl, ⟨by omega, by omega⟩, fun N3 hN3 => ?_⟩
  refine hfirst hne a c N3 _ fun N4 hN4 _ => Br.not (fun hb0 => ⟨_, _, _, rfl, ⟨by omega, by omega⟩, fun N5 hN5 => ?_⟩) fun hb0 => ⟨_, _, _, rfl, full (by simp [hb0]) N4 (by omega)⟩
  have hmain := upF hes hlen (fun i xs => 1 ≤ i → ∀ (done : List D) (q N' : Nat), N ≤ N' → All2 Tm.Is ((tmsKeep l k nm (v.map plB)).take i) done → done.length = i → OwnL N N' done →
   L_impl_places_code_9 Q N done.length q i (.ag [.lit (.int .i64 k), .lit (.string nm), .lit (.string ot), .lit (.int .i64 n0), t0, t1, r0, r1, .sl a1 9 es c1]) 0 (bytes []) (bytes []) 0 0 none [] 0 0 none [] 0 none [] 0 a (v.map plD) c done q N') ?_ ?_ 1 (by omega) (Nat.le_refl _)
  ·cases l with
   | nil => exact absurd rfl hne
   | cons x0 rest =>
     have m0 : x0 ∈ x0 :: rest := by simp
     have h0c := tms_mem_cnt m0
     refine c_ownTm x0 _ (hes.get (i := 0) rfl) (by omega) N5 _ fun d' N6 hN6 hd' ho' _ _ => ?_
     have := hmain [d'] 1 N6 (by omega) (by simp only [tmsKeep, List.take_succ_cons, List.take_zero]; exact all2_one hd') rfl (ownL_one (ho'.mono (by omega) (Nat.le_refl _)))
     exact this
  ·intro i hlt hi h1 done q N' hN' hd hdl ho
   refine l_impl_places_code_9 _ _ _ _ _ _ _ _ _ _ _ _ _ _ _ _ _ _ _ _ _ _ _ _ _ _ _ ⟨_, _, _, rfl, ?_⟩
   rw [List.take_of_length_le (by rw [keep_len]; omega)] at hd
   rw [hlt]
   refine ⟨⟨rfl, rfl⟩, ⟨rfl, rfl⟩, fun a2 N7 hN7 hf N8 hN8 => ?_⟩
   refine c_node hh (by omega) (by omega) hd (by omega) a2 q N N8 (by omega) ((own_sl ho hf hN7).mono (Nat.le_refl _) hN8) _ fun d' N9 hN9 hd' ho' _ _ N10 hN10 => ?_
   exact hQ _ _ (by omega) (by rw [hcode, if_pos ⟨h4, hb0⟩]; exact hd') (ho'.mono (Nat.le_refl _) hN10)
  ·intro i x xs hat _ ih2 h1 done q N' hN' hd hdl ho
   have hb2 := hat.b
   refine l_impl_places_code_9 _ _ _ _ _ _ _ _ _ _ _ _ _ _ _ _ _ _ _ _ _ _ _ _ _ _ _ ⟨_, _, _, rfl, ?_⟩
   rw [hat.lt]
   intro ad _ ad1 _ N7 hN7 hbel
   refine part i x hat N7 ad ad1 _ fun d' N8 hN8 hd' ho' _ => ⟨off_own hbel ho', fun _ => ⟨⟨rfl, rfl⟩, by unfold apBound; rw [List.length_append]; simp only [List.length_cons, List.length_nil]; omega, fun c3 => ?_⟩⟩
   rw [hat.w]
   obtain ⟨j, rfl⟩ : ∃ j, i = j + 1 := ⟨i - 1, by omega⟩
   refine ih2 (by omega) _ _ _ (by omega) (by rw [take_at (keep_get l k nm _ j x hat.g)]; exact hd.snoc hd') (by simp [hdl]) (ownL_append (ho.mono (Nat.le_refl _) hN7) (ownL_one ho') (by omega) (by omega))
end Go.Proofs.YtfkmegifjiiclaaGreat
