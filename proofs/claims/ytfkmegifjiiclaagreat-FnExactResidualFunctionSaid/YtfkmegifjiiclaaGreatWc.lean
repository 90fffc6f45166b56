/- Copies of terms: the program's and the reference's. -/
import Derived.Test.YtfkmegifjiiclaaGreatWp
import Derived.Test.YtfkmegifjiiclaaGreatWm
set_option linter.unusedVariables false
set_option linter.unusedSimpArgs false
namespace Go.Proofs.YtfkmegifjiiclaaGreat
open Go Go.Proofs Go.Proofs.Tryz Go.IntWalk

theorem sX {N N1 N2 : Nat} {es fs : List D} (h1 : OwnL N1 N2 es) (h2 : OwnL N N1 fs) (hN : N ≤ N1) (hN2 : N1 ≤ N2) : OwnL N N2 (es ++ fs) := by
 refine ⟨?_, yv h1.fl h2.fl, fun b hb => ?_, fun b hb => ?_⟩
 ·rw [zC, List.nodup_append]
  refine ⟨h1.nd, h2.nd, fun a ha b hb hab => ?_⟩
  have := h1.lo a ha; have := h2.hi b hb; omega
 ·rw [zC] at hb
  rcases List.mem_append.1 hb with hb | hb
  ·have := h1.lo b hb; omega
  ·exact h2.lo b hb
 ·rw [zC] at hb
  rcases List.mem_append.1 hb with hb | hb
  ·exact h1.hi b hb
  ·have := h2.hi b hb; omega
/-- a term's parts anew: its head is copied, the parts are those handed in -/
theorem zOG {k : Int} {nm ot : ByteArray} {n0 : Int} {ty re : Ty} {t0 t1 r0 r1 x : D} (hh : Tm.Hd nm ot ty re t0 t1 r0 r1) (h1 : ty.cnt ≤ 1073741824) (h2 : re.cnt ≤ 1073741824) {l : List Tm} {es : List D} (hes : All2 Tm.Is l es) (hlen : es.length ≤ 4611686018427387904) (a : Option Addr) (c : Nat) (N0 N : Nat) (hN0 : N0 ≤ N) (ho : Own N0 N (.sl a 9 es c))
  (Q : QT [.ag 9]) (hQ : ∀ d' N', N ≤ N' → (Tm.mk k nm ot n0 ty re l).Is d' → Own N0 N' d' → Q d' N') :
  ACalls prog 107 [.ag 9] [.dg 9 (.ag [.lit (.int .i64 k), .lit (.string nm), .lit (.string ot), .lit (.int .i64 n0), t0, t1, r0, r1, x]), .sv a 9 es c] N Q := by
 refine zBd N _ a es c Q fun _ _ => ?_
 repeat' first|with_reducible intro _|simp only[Y1,Y2,Y3,Y4]|(with_reducible first|refine X1 ?_ ?_|refine X2 ?_ ?_|refine X3 ?_ ?_|refine X4 ?_ ?_|refine X5 ?_ ?_|refine X6 ?_ ?_|refine X7 ?_ ?_|refine X8 ?_ ?_|refine X9 ?_ ?_)|refine⟨_,_,_,rfl,?_⟩|refine⟨_,rfl,?_⟩|((with_reducible refine And.intro ?_ ?_);·first|omega|trivial|(show _=_;rfl)|((with_reducible refine And.intro ?_ ?_)<;>first|omega|trivial|(show _=_;rfl)))|refine (zDb _ _ hh.ty h1) _ _ ?_|refine (zDb _ _ hh.re h2) _ _ ?_|fail
 rename_i N1 hN1 x1 N2 hN2 hx hox _ _ N3 hN3 y N4 hN4 hy hoy _ _ N5 hN5
 refine hQ _ _ (by omega) (Tm.is_mk.2 ⟨_, _, _, _, _, _, _, rfl, ⟨hh.nm, hh.ot, Ty.is_cells hx, Ty.is_cells hy⟩, hlen, hes⟩) ?_
 exact wm (zE (zE (zE (zE (sX (N1 := N) (zW ((wE hx hox).mono hN1 hN3) ((wE hy hoy).mono (Nat.le_refl _) hN5) (by omega) (by omega)) (zN ho) hN0 (by omega))))))
theorem zMh : ∀ (t : Tm) (d : D), t.Is d → t.cnt ≤ 1073741824 → Cop 104 9 [.dg 9 d] t.Is := by
 refine Tm.ind fun k nm ot n0 ty re l ih d hd hc N Q hQ => ?_
 obtain ⟨t0, t1, r0, r1, a, es, c, rfl, hh, hlen, hes⟩ := Tm.is_mk.1 hd
 have hl := hes.len
 simp only [Tm.cnt] at hc
 have hlc := yT l
 refine zDC N _ Q fun _ N1 hN1 => ?_
 refine rL N1 _ _ fun _ => ⟨_, _, _, rfl, ?_⟩
 refine up hes hlen (fun i xs => ∀ (done : List D) (q N' : Nat), N1 ≤ N' → All2 Tm.Is (l.take i) done → done.length = i → OwnL N1 N' done →
  ya _ N1 done.length q a es c es.length i (.ag [.lit (.int .i64 k), .lit (.string nm), .lit (.string ot), .lit (.int .i64 n0), t0, t1, r0, r1, .sl a 9 es c]) 0 (bytes []) (bytes []) 0 0 none [] 0 0 none [] 0 none [] 0 done q N') ?_ ?_ [] 0 N1 (Nat.le_refl _) rfl rfl tP
 ·intro i hlt hi done q N' hN' hd hdl ho
  refine vB _ _ _ _ _ _ _ _ _ _ _ _ _ _ _ _ _ _ _ _ _ _ _ _ _ _ _ _ ?_
  rw [List.take_of_length_le (by omega)] at hd
  rw [hlt]
  refine ⟨⟨rfl, rfl⟩, ⟨rfl, rfl⟩, fun a2 N3 hN3 hf N4 hN4 => ?_⟩
  refine zOG hh (by omega) (by omega) hd (by omega) a2 q N1 N4 (by omega) ((uS ho hf hN3).mono (Nat.le_refl _) hN4) _ fun d' N5 hN5 hd' hod _ _ N6 hN6 => ?_
  exact fun _ _ N7 hN7 => hQ _ _ (by omega) hd' (hod.mono hN1 (by omega))
 ·intro i x xs hat _ ih2 done q N' hN' hd hdl ho
  have hb := hat.b
  have hxc := zR hat.m
  refine vB _ _ _ _ _ _ _ _ _ _ _ _ _ _ _ _ _ _ _ _ _ _ _ _ _ _ _ _ ?_
  repeat' first|with_reducible intro _|simp only[hat.lt, hat.w, Int.toNat_natCast,Y1,Y2,Y3,Y4]|(with_reducible first|refine X1 ?_ ?_|refine X2 ?_ ?_|refine X3 ?_ ?_|refine X4 ?_ ?_|refine X5 ?_ ?_|refine X6 ?_ ?_|refine X7 ?_ ?_|refine X8 ?_ ?_|refine X9 ?_ ?_)|refine⟨_,_,_,rfl,?_⟩|refine⟨_,rfl,?_⟩|((with_reducible refine And.intro ?_ ?_);·first|omega|trivial|(show _=_;rfl)|((with_reducible refine And.intro ?_ ?_)<;>first|omega|trivial|(show _=_;rfl)))|refine (ih x hat.m _ hat.r (by omega)) _ _ ?_|fail
  rename_i N2 hN2 x' N3 hN3 hx hox _ _
  refine ⟨by unfold zB; rw [List.length_append]; simp only [List.length_cons, List.length_nil]; omega, fun c1 => ?_⟩
  refine ih2 _ _ _ (by omega) (by rw [zY hat.g]; exact hd.snoc hx) (by simp [hdl]) (zW (ho.mono (Nat.le_refl _) hN2) (zN hox) (by omega) hN3)
theorem zJ9 {a : Option Addr} {z c : Nat} {es : List D} (h : (zA es).Nodup) (ha : ∀ ad, a = some ad → ad.block ∉ zA es) : (D.sl a z es c).foot.Nodup := by
 cases a with
 | none => simpa only [D.foot] using h
 | some ad =>
   simp only [D.foot]
   split
   ·exact List.nodup_nil
   ·exact List.nodup_cons.2 ⟨ha ad rfl, h⟩
/-- a copied part goes behind the others -/
theorem zOA {N0 N1 N2 N3 : Nat} {hd r xs es : List D} {l0 l1 l2 l3 : Value} {a : Option Addr} {c : Nat} {ds : List D} (h1 : OwnL N0 N1 (hd ++ r)) (h2 : OwnL N1 N2 (xs ++ es)) (hf : Fresh N0 N3 a ds) (g1 : N0 ≤ N1) (g2 : N1 ≤ N2) (g3 : N2 ≤ N3)
  (d1 : ∀ ad, a = some ad → ad.block ∉ zA (hd ++ r)) (d2 : ∀ ad, a = some ad → ad.block ∉ zA (xs ++ es)) : OwnL N0 N3 (hd ++ (r ++ [.ag (.lit l0 :: .lit l1 :: .lit l2 :: .lit l3 :: (xs ++ [.sl a 9 es c]))])) := by
 have hn1 := h1.nd
 have hn2 := h2.nd
 rw [zC] at hn1 hn2
 have e : zA (hd ++ (r ++ [.ag (.lit l0 :: .lit l1 :: .lit l2 :: .lit l3 :: (xs ++ [.sl a 9 es c]))])) = zA (hd ++ r) ++ (zA xs ++ (D.sl a 9 es c).foot) := by
  simp only [zC, zA, D.foot, List.nil_append, List.append_nil, List.append_assoc]
 have hfl1 := h1.fl
 have hfl2 := h2.fl
 have hbs : ∀ b, b ∈ (D.sl a 9 es c).foot → b ∈ zA (xs ++ es) ∨ ∃ ad, a = some ad ∧ b = ad.block := fun b hb => by
  rcases wb b hb with h | h
  ·left; rw [zC]; exact List.mem_append_right _ h
  ·exact .inr h
 refine ⟨?_, ?_, fun b hb => ?_, fun b hb => ?_⟩
 ·rw [e, List.nodup_append]
  refine ⟨h1.nd, ?_, fun x hx y hy hxy => ?_⟩
  ·rw [List.nodup_append] at hn2 ⊢
   refine ⟨hn2.1, zJ9 hn2.2.1 fun ad h hc => d2 ad h (by rw [zC]; exact List.mem_append_right _ hc), fun x hx y hy hxy => ?_⟩
   subst hxy
   rcases wb x hy with h | ⟨ad, h9, h'⟩
   ·exact hn2.2.2 x hx x h rfl
   ·subst h'; exact d2 ad h9 (by rw [zC]; exact List.mem_append_left _ hx)
  ·subst hxy
   have hxi := h1.hi x hx
   rcases List.mem_append.1 hy with h | h
   ·have := h2.lo x (by rw [zC]; exact List.mem_append_left _ h); omega
   ·rcases hbs x h with h | ⟨ad, h9, h'⟩
    ·have := h2.lo x h; omega
    ·subst h'; exact d1 ad h9 hx
 ·have hxs : yw xs ∧ yw es := by
   have : ∀ (u v : List D), yw (u ++ v) → yw u ∧ yw v := by
    intro u
    induction u with
    | nil => intro v h; exact ⟨trivial, h⟩
    | cons y u ih => intro v h; obtain ⟨g1, g2⟩ := ih v h.2; exact ⟨⟨h.1, g1⟩, g2⟩
   exact this _ _ hfl2
  have hpr : yw hd ∧ yw r := by
   have : ∀ (u v : List D), yw (u ++ v) → yw u ∧ yw v := by
    intro u
    induction u with
    | nil => intro v h; exact ⟨trivial, h⟩
    | cons y u ih => intro v h; obtain ⟨g1, g2⟩ := ih v h.2; exact ⟨⟨h.1, g1⟩, g2⟩
   exact this _ _ hfl1
  refine yv hpr.1 (yv hpr.2 ⟨?_, trivial⟩)
  have hsl : D.Flat0 (.sl a 9 es c) := ⟨fun ad h => hf.off ad h, hxs.2⟩
  exact ⟨trivial, trivial, trivial, trivial, yv hxs.1 ⟨hsl, trivial⟩⟩
 ·rw [e] at hb
  rcases List.mem_append.1 hb with h | h
  ·exact h1.lo b h
  ·rcases List.mem_append.1 h with h | h
   ·have := h2.lo b (by rw [zC]; exact List.mem_append_left _ h); omega
   ·rcases hbs b h with h | ⟨ad, h9, h'⟩
    ·have := h2.lo b h; omega
    ·subst h'; exact hf.lo ad h9
 ·rw [e] at hb
  rcases List.mem_append.1 hb with h | h
  ·have := h1.hi b h; omega
  ·rcases List.mem_append.1 h with h | h
   ·have := h2.hi b (by rw [zC]; exact List.mem_append_left _ h); omega
   ·rcases hbs b h with h | ⟨ad, h9, h'⟩
    ·have := h2.hi b h; omega
    ·subst h'; exact hf.hi ad h9
/-- the reference's copy, told cell by cell -/
theorem zFb : ∀ (t : Tm) (d : D), t.Is d → t.cnt ≤ 1073741824 → ∀ (N : Nat) (Q : QT [.pk, .int .i64, .str, .str, .int .i64, .dc, .dc, .dc, .dc, .row 36 9]),
  (match t with | .mk k nm ot n ty re l => ∀ x4 x5 x6 x7 es' c' N', N ≤ N' → Tm.Hd nm ot ty re x4 x5 x6 x7 → All2 Tm.Is l es' → OwnL N N' ([x4, x5, x6, x7] ++ es') → Q k nm ot n x4 x5 x6 x7 es' c' N') →
  ACalls prog 75 [.pk, .int .i64, .str, .str, .int .i64, .dc, .dc, .dc, .dc, .row 36 9] [.dg 9 d] N Q := by
 refine Tm.ind fun k nm ot n0 ty re l ih d hd hc N Q hQ => ?_
 obtain ⟨t0, t1, r0, r1, a, es, c, rfl, hh, hlen, hes⟩ := Tm.is_mk.1 hd
 have hl := hes.len
 simp only [Tm.cnt] at hc
 have hlc := yT l
 simp only at hQ
 refine zGt N _ Q fun _ => ?_
 repeat' first|with_reducible intro _|simp only[Y1,Y2,Y3,Y4]|(with_reducible first|refine X1 ?_ ?_|refine X2 ?_ ?_|refine X3 ?_ ?_|refine X4 ?_ ?_|refine X5 ?_ ?_|refine X6 ?_ ?_|refine X7 ?_ ?_|refine X8 ?_ ?_|refine X9 ?_ ?_)|refine⟨_,_,_,rfl,?_⟩|refine⟨_,rfl,?_⟩|((with_reducible refine And.intro ?_ ?_);·first|omega|trivial|(show _=_;rfl)|((with_reducible refine And.intro ?_ ?_)<;>first|omega|trivial|(show _=_;rfl)))|refine (zU _ _ hh.ty (by omega)) _ _ ?_|refine (zU _ _ hh.re (by omega)) _ _ ?_|fail
 rename_i N1 hN1 x1 N2 hN2 hx hox _ _ N3 hN3 y N4 hN4 hy hoy _ _
 have hHd : Tm.Hd nm ot ty re (x1.cell 0) (x1.cell 1) (y.cell 0) (y.cell 1) := ⟨hh.nm, hh.ot, Ty.is_cells hx, Ty.is_cells hy⟩
 have hOX : OwnL N N4 ([x1.cell 0, x1.cell 1, y.cell 0, y.cell 1] ++ []) := by
  have h := zW ((wE hx hox).mono hN1 (Nat.le_refl _)) ((wE hy hoy).mono hN3 (Nat.le_refl _)) (by omega) (by omega)
  exact h
 refine up hes hlen (fun i xs => ∀ (done : List D) (q N' : Nat), N4 ≤ N' → All2 Tm.Is (l.take i) done → done.length = i → OwnL N N' ([x1.cell 0, x1.cell 1, y.cell 0, y.cell 1] ++ done) →
  xz Q N i (.ag [.lit (.int .i64 k), .lit (.string nm), .lit (.string ot), .lit (.int .i64 n0), t0, t1, r0, r1, .sl a 9 es c]) 0 (bytes []) (bytes []) 0 0 none [] 0 0 none [] 0 none [] 0 k nm ot n0 (x1.cell 0) (x1.cell 1) (y.cell 0) (y.cell 1) done.length q done q N') ?_ ?_ [] 0 N4 (Nat.le_refl _) rfl rfl hOX
 ·intro i hlt hi done q N' hN' hd hdl ho
  refine sf _ _ _ _ _ _ _ _ _ _ _ _ _ _ _ _ _ _ _ _ _ _ _ _ _ _ _ _ _ _ _ _ ⟨_, _, _, rfl, ?_⟩
  rw [List.take_of_length_le (by omega)] at hd
  rw [hlt]
  exact ⟨⟨rfl, rfl⟩, fun N5 hN5 => hQ _ _ _ _ _ _ _ (by omega) hHd hd (ho.mono (Nat.le_refl _) hN5)⟩
 ·intro i x xs hat _ ih2 done q N' hN' hd hdl ho
  have hb := hat.b
  have hxc := zR hat.m
  refine sf _ _ _ _ _ _ _ _ _ _ _ _ _ _ _ _ _ _ _ _ _ _ _ _ _ _ _ _ _ _ _ _ ⟨_, _, _, rfl, ?_⟩
  rw [hat.lt]
  refine ⟨_, _, _, rfl, ⟨by omega, by omega⟩, fun N5 hN5 => ?_⟩
  rw [Int.toNat_natCast, hat.w]
  refine ih x hat.m _ hat.r (by omega) _ _ ?_
  cases x with
  | mk k2 nm2 ot2 n2 ty2 re2 l2 =>
    intro x4 x5 x6 x7 es2 c2 N6 hN6 hh2 hes2 ho2 _ _
    have hl2 := hes2.len
    have hlc2 := yT l2
    simp only [Tm.cnt] at hxc
    refine ⟨⟨rfl, rfl⟩, fun a2 N7 hN7 hf => ⟨⟨rfl, rfl⟩, by unfold zB; rw [List.length_append]; simp only [List.length_cons, List.length_nil]; omega, fun c3 => ?_⟩⟩
    refine ih2 _ _ _ (by omega) (by rw [zY hat.g]; exact hd.snoc (Tm.is_mk.2 ⟨_, _, _, _, _, _, _, rfl, hh2, by omega, hes2⟩)) (by simp [hdl]) ?_
    refine zOA (hd := [x1.cell 0, x1.cell 1, y.cell 0, y.cell 1]) (xs := [x4, x5, x6, x7]) (ho.mono (Nat.le_refl _) hN5) ho2 hf (by omega) (by omega) (by omega) ?_ ?_
    ·intro ad h hc
     have hap := hf.ap ad h
     simp only [List.mem_cons, forall_eq_or_imp, D.foot, List.not_mem_nil, false_imp_iff, implies_true, and_true] at hap
     simp only [List.cons_append, List.nil_append, zA, List.mem_append] at hc
     obtain ⟨_, _, _, _, _, g1, g2, g3, g4, g5⟩ := hap
     rcases hc with hc | hc | hc | hc | hc
     ·exact g1 hc
     ·exact g2 hc
     ·exact g3 hc
     ·exact g4 hc
     ·exact g5 hc
    ·intro ad h hc
     have hap := hf.ap ad h
     simp only [List.mem_cons, forall_eq_or_imp, D.foot, List.not_mem_nil, false_imp_iff, implies_true, and_true] at hap
     simp only [List.cons_append, List.nil_append, zA, List.mem_append] at hc
     obtain ⟨g5, g1, g2, g3, g4, _⟩ := hap
     rcases hc with hc | hc | hc | hc | hc
     ·exact g1 hc
     ·exact g2 hc
     ·exact g3 hc
     ·exact g4 hc
     ·exact g5 hc
end Go.Proofs.YtfkmegifjiiclaaGreat

/- A term built by the reference: l5Node. -/
set_option linter.unusedVariables false
set_option linter.unusedSimpArgs false
namespace Go.Proofs.YtfkmegifjiiclaaGreat
open Go Go.Proofs Go.Proofs.Tryz Go.IntWalk

theorem zAp {N N' : Nat} {es : List D} (h : OwnL N N' es) : OwnL N N' (.sl none 2 [] 0 :: es) :=
 ⟨by simpa only [zA, D.foot, List.nil_append] using h.nd, ⟨⟨by simp, trivial⟩, h.fl⟩, by simpa only [zA, D.foot, List.nil_append] using h.lo, by simpa only [zA, D.foot, List.nil_append] using h.hi⟩
/-- a node of the reference: the parts are copied -/
theorem zKH (k : Int) {l : List Tm} {es : List D} (hes : All2 Tm.Is l es) (hlen : es.length ≤ 1073741824) (hc : ∀ x ∈ l, x.cnt ≤ 1073741824) (a : Option Addr) (c : Nat) (N : Nat) (Q : QT [.ag 9])
  (hQ : ∀ d' N', N ≤ N' → (Tm.mk k (bytes []) (bytes []) 0 (.mk 0 []) (.mk 0 []) l).Is d' → Own N N' d' → Q d' N') :
  ACalls prog 90 [.ag 9] [.int .i64 k, .sv a 9 es c] N Q := by
 have hl := hes.len
 refine zFw N _ a es c Q fun _ => ?_
 refine up hes (by omega) (fun i xs => ∀ (done : List D) (q N' : Nat), N ≤ N' → All2 Tm.Is (l.take i) done → done.length = i → OwnL N N' done →
  wA Q N a es c i 0 (bytes []) (bytes []) 0 0 none [] 0 0 none [] 0 none [] 0 k (bytes []) (bytes []) 0 0 none [] 0 0 none [] 0 done.length q done q N') ?_ ?_ [] 0 N (Nat.le_refl _) rfl rfl tP
 ·intro i hlt hi done q N' hN' hd hdl ho
  refine sy _ _ _ _ _ _ _ _ _ _ _ _ _ _ _ _ _ _ _ _ _ _ _ _ _ _ _ _ _ _ _ _ _ _ _ _ _ _ ?_
  rw [List.take_of_length_le (by omega)] at hd
  rw [hlt]
  refine ⟨⟨rfl, rfl⟩, ⟨rfl, rfl⟩, ⟨rfl, rfl⟩, fun a1 N4 hN4 hf N5 hN5 => hQ _ _ (by omega) (Tm.is_mk.2 ⟨_, _, _, _, _, _, _, rfl, ⟨by decide, by decide, xu _, xu _⟩, by omega, hd⟩) ?_⟩
  exact wm (zE (zE (zE (zE (zE (zAp (zE (zAp (zN ((uS ho hf hN4).mono (Nat.le_refl _) hN5))))))))))
 ·intro i x xs hat _ ih2 done q N' hN' hd hdl ho
  have hb := hat.b
  have hxc := hc x hat.m
  refine sy _ _ _ _ _ _ _ _ _ _ _ _ _ _ _ _ _ _ _ _ _ _ _ _ _ _ _ _ _ _ _ _ _ _ _ _ _ _ ?_
  rw [hat.lt]
  refine ⟨⟨by omega, by omega⟩, fun N5 hN5 => ?_⟩
  rw [Int.toNat_natCast, hat.w]
  refine zFb x _ hat.r (by omega) _ _ ?_
  cases x with
  | mk k2 nm2 ot2 n2 ty2 re2 l2 =>
    intro x4 x5 x6 x7 es2 c2 N6 hN6 hh2 hes2 ho2 _ _
    have hl2 := hes2.len
    have hlc2 := yT l2
    simp only [Tm.cnt] at hxc
    refine ⟨⟨rfl, rfl⟩, fun a2 N7 hN7 hf => ⟨⟨rfl, rfl⟩, by unfold zB; rw [List.length_append]; simp only [List.length_cons, List.length_nil]; omega, fun c3 => ?_⟩⟩
    refine ih2 _ _ _ (by omega) (by rw [zY hat.g]; exact hd.snoc (Tm.is_mk.2 ⟨_, _, _, _, _, _, _, rfl, hh2, by omega, hes2⟩)) (by simp [hdl]) ?_
    refine zOA (hd := []) (xs := [x4, x5, x6, x7]) (ho.mono (Nat.le_refl _) hN5) ho2 hf (by omega) (by omega) (by omega) ?_ ?_
    ·intro ad h hc
     have hap := hf.ap ad h (.ag done) (by simp)
     exact hap (by simpa only [D.foot, List.nil_append] using hc)
    ·intro ad h hc
     have hap := hf.ap ad h
     simp only [List.cons_append, List.nil_append, zA, List.mem_append] at hc
     rcases hc with hc | hc | hc | hc | hc
     ·exact hap x4 (by simp) hc
     ·exact hap x5 (by simp) hc
     ·exact hap x6 (by simp) hc
     ·exact hap x7 (by simp) hc
     ·exact hap (.ag es2) (by simp) (by simpa only [D.foot] using hc)
end Go.Proofs.YtfkmegifjiiclaaGreat

/- The reference's quote, splice and let. -/
set_option linter.unusedVariables false
set_option linter.unusedSimpArgs false
namespace Go.Proofs.YtfkmegifjiiclaaGreat
open Go Go.Proofs Go.Proofs.Tryz Go.IntWalk

/-- a node with nothing but its kind and its parts -/
def Tm.nod (k : Int) (l : List Tm) : Tm := .mk k (bytes []) (bytes []) 0 (.mk 0 []) (.mk 0 []) l
theorem zGq {t : Tm} {d : D} (h : t.Is d) : All2 Tm.Is [t] [d] := ⟨d, [], rfl, h, rfl⟩
theorem zNW {t u : Tm} {d e : D} (h : t.Is d) (g : u.Is e) : All2 Tm.Is [t, u] [d, e] := ⟨d, [e], rfl, h, zGq g⟩
theorem zNo {N N' : Nat} {v0 v1 v2 w : Value} {es : List D} (h : Own N N' (.ag (.lit v0 :: .lit v1 :: es))) : Own N N' (.ag (.lit v0 :: .lit w :: es)) :=
 ⟨by simpa only [zA, D.foot, List.nil_append] using h.nd, h.fl, by simpa only [zA, D.foot, List.nil_append] using h.lo, by simpa only [zA, D.foot, List.nil_append] using h.hi⟩
/-- a let around a name -/
def Tm.letN (s : ByteArray) (t u : Tm) : Tm := .mk 8 s (bytes []) 0 (.mk 0 []) (.mk 0 []) [t, u]
theorem zOd (s : ByteArray) (hs : s.size ≤ 4611686018427387904) (t u : Tm) (d e : D) (hd : t.Is d) (he : u.Is e) (hc : t.cnt ≤ 1073741824) (hc2 : u.cnt ≤ 1073741824) : Cop 91 9 [.str s, .dg 9 d, .dg 9 e] (Tm.letN s t u).Is := fun N Q hQ => by
 refine zH5 N s _ _ Q fun _ _ => ⟨⟨rfl, rfl⟩, fun a _ N1 hN1 hb => ?_⟩
 refine zKH 8 (zNW hd he) (by simp) (by simpa using ⟨hc, hc2⟩) a 2 N1 _ fun d' N2 hN2 hd' ho _ => ⟨tu hb ho, fun _ N3 hN3 => ?_⟩
 obtain ⟨t0, t1, r0, r1, a', es, c, rfl, hh, hlen, hes⟩ := Tm.is_mk.1 hd'
 exact hQ _ _ (by omega) (Tm.is_mk.2 ⟨_, _, _, _, _, _, _, rfl, ⟨hs, hh.ot, hh.ty, hh.re⟩, hlen, hes⟩) ((zNo (v2 := .string s) ho).mono hN1 hN3)
end Go.Proofs.YtfkmegifjiiclaaGreat

/- The code for a body: what it is, and the reference's walk. -/
set_option linter.unusedVariables false
set_option linter.unusedSimpArgs false
namespace Go.Proofs.YtfkmegifjiiclaaGreat
open Go Go.Proofs Go.Proofs.Tryz Go.IntWalk

/-- what is bound around the parts behind the first -/
def bdE (k : Int) (nm : ByteArray) (v : List Bd) (b : Bool) : List Bd := if k = 8 then v ++ [(nm, b)] else v
def zCJ : List Tm → List Bd → Bool
 | [], _ => true
 | x :: _, v => x.late v
theorem Tm.cnt3 : ∀ t : Tm, 3 ≤ t.cnt
 | .mk _ _ _ _ ty re _ => by simp only [Tm.cnt]; have := ty.cnt_pos; have := re.cnt_pos; omega
theorem zF6 (k : Int) (l : List Tm) : (Tm.nod k l).cnt = 3 + zJ l := by simp only [Tm.nod, Tm.cnt, Ty.cnt, zH]
theorem zOo {a c : List D} {x y : D} : (a ++ x :: c).set a.length y = a ++ y :: c := by simp
/-- the fields of a node that has neither number nor types nor other name -/
theorem zLV {k n : Int} {nm ot : ByteArray} {ty re : Ty} {l : List Tm} (h : Node k nm ot n ty re l) (hk : k = 5 ∨ k = 8) : ot = bytes [] ∧ n = 0 ∧ ty = .mk 0 [] ∧ re = .mk 0 [] ∧ (k = 5 → nm = bytes []) := by
 have hf := h.f
 have z : ∀ t : Ty, t.zero = true → t = .mk 0 [] := fun t ht => by
  obtain ⟨kk, ll⟩ := t
  simp only [Ty.zero, Ty.k, Ty.as, Bool.and_eq_true, beq_iff_eq] at ht
  have : ll = [] := List.eq_nil_of_length_eq_zero (by omega)
  rw [ht.1, this]
 have e1 : zBP k = false := by rcases hk with rfl | rfl <;> rfl
 have e2 : (k == 9) = false := by rcases hk with rfl | rfl <;> rfl
 simp only [yF, e1, e2, Bool.and_eq_true, Bool.false_or, yJ] at hf
 obtain ⟨_, h1, _, h2, h3, h4⟩ := hf
 rw [if_neg (by omega), if_neg (by omega)] at h3
 rcases hk with rfl | rfl
 ·simp [sq] at h4
  exact ⟨h4.2, by omega, z _ h1, z _ h2, fun _ => h4.1⟩
 ·simp [sq] at h4
  exact ⟨h4.2, by omega, z _ h1, z _ h2, fun h => by omega⟩
end Go.Proofs.YtfkmegifjiiclaaGreat

/- The code for a body: the reference. -/
set_option linter.unusedVariables false
set_option linter.unusedSimpArgs false
namespace Go.Proofs.YtfkmegifjiiclaaGreat
open Go Go.Proofs Go.Proofs.Tryz Go.IntWalk

end Go.Proofs.YtfkmegifjiiclaaGreat

/- The code for a body: the program. -/
set_option linter.unusedVariables false
set_option linter.unusedSimpArgs false
namespace Go.Proofs.YtfkmegifjiiclaaGreat
open Go Go.Proofs Go.Proofs.Tryz Go.IntWalk

theorem Fresh.mono {N0 N1 N M : Nat} {a : Option Addr} {ds : List D} (h : Fresh N0 N a ds) (h1 : N1 ≤ N0) (h2 : N ≤ M) : Fresh N1 M a ds :=
 ⟨fun ad h' => Nat.le_trans h1 (h.lo ad h'), fun ad h' => Nat.lt_of_lt_of_le (h.hi ad h') h2, h.off, h.ap⟩
theorem zJt {k : Int} {a : Option Addr} {es : List D} {c : Nat} {l : List Tm} (h : All2 Tm.Is l es) (hl : es.length ≤ 4611686018427387904) :
  (Tm.nod k l).Is (.ag [.lit (.int .i64 k), .lit (.string (bytes [])), .lit (.string (bytes [])), .lit (.int .i64 0), .lit (.int .i64 0), .sl none 2 [] 0, .lit (.int .i64 0), .sl none 2 [] 0, .sl a 9 es c]) :=
 Tm.is_mk.2 ⟨_, _, _, _, _, _, _, rfl, ⟨by decide, by decide, xu _, xu _⟩, hl, h⟩
theorem zCE {N N' : Nat} (k : Int) : Own N N' (.ag [.lit (.int .i64 k), .lit (.string (bytes [])), .lit (.string (bytes [])), .lit (.int .i64 0), .lit (.int .i64 0), .sl none 2 [] 0, .lit (.int .i64 0), .sl none 2 [] 0, .sl none 9 [] 0]) :=
 wm (zE (zE (zE (zE (zE (zAp (zE (zAp (zN ⟨by simp [D.foot, zA], ⟨by simp, trivial⟩, by simp [D.foot, zA], by simp [D.foot, zA]⟩))))))))) 
end Go.Proofs.YtfkmegifjiiclaaGreat
