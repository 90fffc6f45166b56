/- Parameters: what they are; the laws' sizes, copies, equality and marks on them. -/
import Derived.Test.YtfkmegifjiiclaaGreatVw
import Derived.Test.YtfkmegifjiiclaaGreatWm
import Derived.Test.YtfkmegifjiiclaaGreatVt
set_option linter.unusedVariables false
set_option linter.unusedSimpArgs false
namespace Go.Proofs.YtfkmegifjiiclaaGreat
open Go Go.Proofs Go.Proofs.Tryz Go.IntWalk

structure Pm where
 nm : ByteArray
 ty : Ty
 dy : Bool
def Pm.Is (g : Pm) (d : D) : Prop := ∃ t0 t1, d = .ag [.lit (.string g.nm), t0, t1, .lit (.bool g.dy)] ∧ g.nm.size ≤ 4611686018427387904 ∧ g.ty.Is (.ag [t0, t1])
structure Pms (g : List Pm) (es : List D) : Prop where
 len : es.length ≤ 4611686018427387904
 all : All2 Pm.Is g es
def zA4 : List Pm → Nat
 | [] => 0
 | g :: gs => g.ty.cnt + zA4 gs
theorem zK5 {g : List Pm} {es : List D} (h : Pms g es) (a : Option Addr) (c : Nat) (n : Int) (h0 : 0 ≤ n) (h1 : n ≤ 1048576) : zPQ 9 [.sv a 4 es c, .int .i64 n] fun r => r = -1 ∨ (0 ≤ r ∧ r ≤ n ∧ (g.length : Int) ≤ n ∧ ∀ x ∈ g, (x.ty.cnt : Int) ≤ n + 1) := fun N Q hQ => by
 have hl := h.all.len
 have hlen := h.len
 have hx : ∀ x ∈ g, ∀ d, x.Is d → ∀ n : Int, 0 ≤ n → n ≤ 1048576 → zPQ 36 [.dg 4 d, .int .i64 n] fun r => r = -1 ∨ (0 ≤ r ∧ r ≤ n ∧ (x.ty.cnt : Int) ≤ n + 1) := fun x _ d hd n h0 h1 N Q hQ => by
  obtain ⟨t0, t1, rfl, hs, ht⟩ := hd
  have := x.ty.cnt_pos
  refine zEC N _ n Q fun _ => ⟨_, rfl, ?_⟩
  rw [i64_in (n - (x.nm.size : Int)) (by omega)]
  refine Br.dec (fun hneg N' hN' => hQ _ _ hN' (.inl rfl)) fun hpos => ?_
  intro N1 hN1
  refine zOv _ _ ht _ (by omega) (by omega) _ _ fun r1 N2 hN2 hr1 => ?_
  refine fun _ => Br.dec (fun hneg N' hN' => hQ _ _ (by omega) (.inl rfl)) fun hpos3 => ?_
  intro N3 hN3
  exact hQ _ _ (by omega) (by omega)
 refine zC8 N a es c n Q fun _ => ?_
 rw [i64_in _ (by omega)]
 have key : 0 ≤ n - (es.length : Int) → ∀ (m : Int) (N' : Nat), N ≤ N' → 0 ≤ m → m ≤ n → (∀ r N'', N' ≤ N'' → (r = -1 ∨ (0 ≤ r ∧ r ≤ m ∧ ∀ x ∈ g, (x.ty.cnt : Int) ≤ n + 1)) → Q r N'') → yk Q N a es c m (0 : Nat) N' := fun _ => by
  refine up h.all h.len (fun i xs => ∀ (m : Int) (N' : Nat), N ≤ N' → 0 ≤ m → m ≤ n → (∀ r N'', N' ≤ N'' → (r = -1 ∨ (0 ≤ r ∧ r ≤ m ∧ ∀ x ∈ xs, (x.ty.cnt : Int) ≤ n + 1)) → Q r N'') → yk Q N a es c m i N') ?_ ?_
  ·intro i hlt _ m N' hN' hm0 hm1 hQ'
   refine ug _ _ _ _ _ _ _ _ ?_
   repeat' first|with_reducible intro _|simp only[hlt,Y1,Y2,Y3,Y4]|(with_reducible first|refine X1 ?_ ?_|refine X2 ?_ ?_|refine X3 ?_ ?_|refine X4 ?_ ?_|refine X5 ?_ ?_|refine X6 ?_ ?_|refine X7 ?_ ?_|refine X8 ?_ ?_|refine X9 ?_ ?_)|refine⟨_,_,_,rfl,?_⟩|refine⟨_,rfl,?_⟩|((with_reducible refine And.intro ?_ ?_);·first|omega|trivial|(show _=_;rfl)|((with_reducible refine And.intro ?_ ?_)<;>first|omega|trivial|(show _=_;rfl)))|fail
   exact hQ' _ _ (by omega) (.inr ⟨hm0, by omega, by simp⟩)
  ·intro i x xs hat _ ih2 m N' hN' hm0 hm1 hQ'
   have hb := hat.b
   refine ug _ _ _ _ _ _ _ _ ?_
   repeat' first|with_reducible intro _|simp only[hat.lt, hat.w, Int.toNat_natCast,Y1,Y2,Y3,Y4]|(with_reducible first|refine X1 ?_ ?_|refine X2 ?_ ?_|refine X3 ?_ ?_|refine X4 ?_ ?_|refine X5 ?_ ?_|refine X6 ?_ ?_|refine X7 ?_ ?_|refine X8 ?_ ?_|refine X9 ?_ ?_)|refine⟨_,_,_,rfl,?_⟩|refine⟨_,rfl,?_⟩|((with_reducible refine And.intro ?_ ?_);·first|omega|trivial|(show _=_;rfl)|((with_reducible refine And.intro ?_ ?_)<;>first|omega|trivial|(show _=_;rfl)))|refine (hx x hat.m _ hat.r m hm0 (by omega)) _ _ ?_|fail
   ·exact hQ' _ _ (by omega) (.inl rfl)
   ·rename_i r N2 hN2 hr hle hneg
    refine ih2 _ _ (by omega) (by omega) (by omega) fun r2 N'' h2 hr2 => hQ' _ _ (by omega) ?_
    rcases hr2 with hr2 | ⟨h3, h4, h5⟩
    ·exact .inl hr2
    ·refine .inr ⟨h3, by omega, fun y hy => ?_⟩
     rcases List.mem_cons.1 hy with rfl | hy
     ·omega
     ·exact h5 y hy
 repeat' first|with_reducible intro _|simp only[Y1,Y2,Y3,Y4]|(with_reducible first|refine X1 ?_ ?_|refine X2 ?_ ?_|refine X3 ?_ ?_|refine X4 ?_ ?_|refine X5 ?_ ?_|refine X6 ?_ ?_|refine X7 ?_ ?_|refine X8 ?_ ?_|refine X9 ?_ ?_)|refine⟨_,_,_,rfl,?_⟩|refine⟨_,rfl,?_⟩|((with_reducible refine And.intro ?_ ?_);·first|omega|trivial|(show _=_;rfl)|((with_reducible refine And.intro ?_ ?_)<;>first|omega|trivial|(show _=_;rfl)))|fail
 ·exact hQ _ _ (by omega) (.inl rfl)
 ·refine key (by omega) _ _ (Nat.le_refl _) (by omega) (by omega) fun r N'' h2 hr => hQ _ _ (by omega) ?_
  rcases hr with hr | ⟨h3, h4, h5⟩
  ·exact .inl hr
  ·exact .inr ⟨h3, by omega, by omega, h5⟩

theorem zMK (x : Pm) (d : D) (hd : x.Is d) (hc : x.ty.cnt ≤ 1073741824) : Cop 42 4 [.dg 4 d] x.Is := fun N Q hQ => by
 obtain ⟨t0, t1, rfl, hs, ht⟩ := hd
 refine zED N _ Q fun _ => ?_
 repeat' first|with_reducible intro _|simp only[Y1,Y2,Y3,Y4]|(with_reducible first|refine X1 ?_ ?_|refine X2 ?_ ?_|refine X3 ?_ ?_|refine X4 ?_ ?_|refine X5 ?_ ?_|refine X6 ?_ ?_|refine X7 ?_ ?_|refine X8 ?_ ?_|refine X9 ?_ ?_)|refine⟨_,_,_,rfl,?_⟩|refine⟨_,rfl,?_⟩|((with_reducible refine And.intro ?_ ?_);·first|omega|trivial|(show _=_;rfl)|((with_reducible refine And.intro ?_ ?_)<;>first|omega|trivial|(show _=_;rfl)))|refine (zOw _ _ ht hc) _ _ ?_|fail
 rename_i N1 hN1 x' N2 hN2 hx ho _ _ N3 hN3
 exact hQ _ _ (by omega) ⟨_, _, rfl, hs, Ty.is_cells hx⟩ (wm (zE (zW ((wE hx ho).mono hN1 hN3) (zE tP) (by omega) (Nat.le_refl _))))
theorem rg {g : List Pm} {es : List D} (h : Pms g es) (hg : g.length ≤ 1073741824) (hc : ∀ x ∈ g, x.ty.cnt ≤ 1073741824) (a : Option Addr) (c : Nat) : zQZ 12 4 [.sv a 4 es c] (Pms g) := fun N Q hQ => by
 have hl := h.all.len
 refine zDc N a es c Q fun _ => ⟨⟨by omega, by omega, by omega, by omega⟩, ?_⟩
 rw [Int.toNat_natCast]
 have key := up h.all h.len (fun i xs => ∀ (done junk : List D) (N' : Nat), N ≤ N' → All2 Pm.Is (g.take i) done → done.length = i → junk.length = xs.length → OwnL N N' done → xJ Q N a es c es.length es.length i (done ++ junk) es.length N') ?_ ?_
 ·simpa using key [] (List.replicate es.length (.ag [.lit (.string (bytes [])), .lit (.int .i64 0), .sl none 2 [] 0, .lit (.bool false)])) N (Nat.le_refl _) rfl rfl (by simp [hl]) tP
 ·intro i hlt hi done junk N' hN' hd hdl hj ho
  have : junk = [] := List.eq_nil_of_length_eq_zero (by simpa using hj)
  subst this
  rw [List.append_nil]
  refine ur _ _ _ _ _ _ _ _ _ _ _ ?_
  rw [List.take_of_length_le (by omega)] at hd
  have hdn : es.length = done.length := by omega
  repeat' first|with_reducible intro _|simp only[hlt,Y1,Y2,Y3,Y4]|(with_reducible first|refine X1 ?_ ?_|refine X2 ?_ ?_|refine X3 ?_ ?_|refine X4 ?_ ?_|refine X5 ?_ ?_|refine X6 ?_ ?_|refine X7 ?_ ?_|refine X8 ?_ ?_|refine X9 ?_ ?_)|refine⟨_,_,_,rfl,?_⟩|refine⟨_,rfl,?_⟩|((with_reducible refine And.intro ?_ ?_);·first|omega|trivial|(show _=_;rfl)|((with_reducible refine And.intro ?_ ?_)<;>first|omega|trivial|(show _=_;rfl)))|fail
  rename_i a' N3 hN3 hf N4 hN4
  exact hQ _ _ _ _ (by omega) ⟨by omega, hd⟩ ((uS ho hf hN3).mono (Nat.le_refl _) hN4)
 ·intro i x xs hat _ ih2 done junk N' hN' hd hdl hj ho
  have hb := hat.b
  cases junk with
  | nil => simp at hj
  | cons y junk =>
    subst hdl
    refine ur _ _ _ _ _ _ _ _ _ _ _ ?_
    repeat' first|with_reducible intro _|simp only[hat.lt, hat.w, Int.toNat_natCast, Nat.zero_add, List.length_append, List.length_cons,Y1,Y2,Y3,Y4]|(with_reducible first|refine X1 ?_ ?_|refine X2 ?_ ?_|refine X3 ?_ ?_|refine X4 ?_ ?_|refine X5 ?_ ?_|refine X6 ?_ ?_|refine X7 ?_ ?_|refine X8 ?_ ?_|refine X9 ?_ ?_)|refine⟨_,_,_,rfl,?_⟩|refine⟨_,rfl,?_⟩|((with_reducible refine And.intro ?_ ?_);·first|omega|trivial|(show _=_;rfl)|((with_reducible refine And.intro ?_ ?_)<;>first|omega|trivial|(show _=_;rfl)))|refine (zMK x _ hat.r (hc x hat.m)) _ _ ?_|fail
    all_goals first | (exfalso; omega) | skip
    rename_i N1 hN1 x' N2 hN2 hx hox _ _
    rw [zBV]
    have := ih2 (done ++ [x']) junk _ (by omega) (by rw [zY hat.g]; exact hd.snoc hx) (by simp) (by simpa using hj) (zW (ho.mono (Nat.le_refl _) hN1) (zN hox) (by omega) hN2)
    simpa using this
theorem zL2 (x : Pm) (d e : D) (hd : x.Is d) (he : x.Is e) : wS 49 [.dg 4 d, .dg 4 e] true := fun N Q hQ => by
 obtain ⟨t0, t1, rfl, hs, ht⟩ := hd
 obtain ⟨u0, u1, rfl, hs', ht'⟩ := he
 refine zD1 N _ _ Q fun _ _ => ?_
 repeat' first|with_reducible intro _|simp only[beq_self_eq_true,Y1,Y2,Y3,Y4]|(with_reducible first|refine X1 ?_ ?_|refine X2 ?_ ?_|refine X3 ?_ ?_|refine X4 ?_ ?_|refine X5 ?_ ?_|refine X6 ?_ ?_|refine X7 ?_ ?_|refine X8 ?_ ?_|refine X9 ?_ ?_)|refine⟨_,_,_,rfl,?_⟩|refine⟨_,rfl,?_⟩|((with_reducible refine And.intro ?_ ?_);·first|omega|trivial|(show _=_;rfl)|((with_reducible refine And.intro ?_ ?_)<;>first|omega|trivial|(show _=_;rfl)))|refine (zBA _ _ _ ht ht') _ _ ?_|fail
 all_goals first | exact absurd rfl (by assumption) | skip
 all_goals exact hQ _ (by omega)
theorem zKZ {g : List Pm} {es fs : List D} (h : Pms g es) (h' : Pms g fs) (a b : Option Addr) (c c' : Nat) : wS 16 [.sv a 4 es c, .sv b 4 fs c'] true := fun N Q hQ => by
 have hl := h.all.len
 have hl' := h'.all.len
 have key := up h.all h.len (fun i xs => ∀ (N' : Nat), N ≤ N' → xG Q N a es c b fs c' i N') ?_ ?_
 ·refine zCb N _ _ _ _ _ _ Q fun _ _ => ?_
  repeat' first|with_reducible intro _|simp only[Y1,Y2,Y3,Y4]|(with_reducible first|refine X1 ?_ ?_|refine X2 ?_ ?_|refine X3 ?_ ?_|refine X4 ?_ ?_|refine X5 ?_ ?_|refine X6 ?_ ?_|refine X7 ?_ ?_|refine X8 ?_ ?_|refine X9 ?_ ?_)|refine⟨_,_,_,rfl,?_⟩|refine⟨_,rfl,?_⟩|((with_reducible refine And.intro ?_ ?_);·first|omega|trivial|(show _=_;rfl)|((with_reducible refine And.intro ?_ ?_)<;>first|omega|trivial|(show _=_;rfl)))|fail
  ·omega
  ·exact key N (Nat.le_refl _)
 ·intro i hlt hi N' hN'
  refine u5 _ _ _ _ _ _ _ _ _ _ ?_
  repeat' first|with_reducible intro _|simp only[hlt,Y1,Y2,Y3,Y4]|(with_reducible first|refine X1 ?_ ?_|refine X2 ?_ ?_|refine X3 ?_ ?_|refine X4 ?_ ?_|refine X5 ?_ ?_|refine X6 ?_ ?_|refine X7 ?_ ?_|refine X8 ?_ ?_|refine X9 ?_ ?_)|refine⟨_,_,_,rfl,?_⟩|refine⟨_,rfl,?_⟩|((with_reducible refine And.intro ?_ ?_);·first|omega|trivial|(show _=_;rfl)|((with_reducible refine And.intro ?_ ?_)<;>first|omega|trivial|(show _=_;rfl)))|fail
  exact hQ _ (by omega)
 ·intro i x xs hat _ ih2 N' hN'
  have hb := hat.b
  refine u5 _ _ _ _ _ _ _ _ _ _ ?_
  repeat' first|with_reducible intro _|simp only[hat.lt, hat.w, Int.toNat_natCast,Y1,Y2,Y3,Y4]|(with_reducible first|refine X1 ?_ ?_|refine X2 ?_ ?_|refine X3 ?_ ?_|refine X4 ?_ ?_|refine X5 ?_ ?_|refine X6 ?_ ?_|refine X7 ?_ ?_|refine X8 ?_ ?_|refine X9 ?_ ?_)|refine⟨_,_,_,rfl,?_⟩|refine⟨_,rfl,?_⟩|((with_reducible refine And.intro ?_ ?_);·first|omega|trivial|(show _=_;rfl)|((with_reducible refine And.intro ?_ ?_)<;>first|omega|trivial|(show _=_;rfl)))|refine (zL2 x _ _ hat.r (h'.all.get hat.g)) _ _ ?_|fail
  exact ih2 _ (by omega)
theorem zJ8 : ∀ (l : List Pm) (rest : List D), All2 Pm.Is l rest → ∀ (done es : List D), zA (done ++ rest) = zA es → (zA (done ++ rest)).Nodup → yw rest → (done ++ rest).length ≤ 4611686018427387904 →
  ∀ (T : List Nat), (∀ b ∈ zA es, b ∈ T) → ∀ (b0 N m c t : Nat) (k K : Int), 0 ≤ k → k + 3 * zA4 l ≤ K → K ≤ 288230376151711744 → ∀ (q N1 : Nat), N ≤ N1 → m = (done ++ rest).length →
  yG T b0 (fun k' x N' => N ≤ N' ∧ ∃ es', x = .ag es' ∧ es'.length = m ∧ zA es' = zA es ∧ 0 ≤ k' ∧ k' ≤ K) N m c k done.length t (done ++ rest) q N1
 | [], rest, hr, done, es, hf, hnd, hfl, hlen, T, hT, b0, N, m, c, t, k, K, hk, hK, hK2, q, N1, hN1, hm => by
   cases hr
   rw [List.append_nil] at *
   simp only [zA4] at hK
   refine wU _ _ _ _ _ _ _ _ _ _ _ _ (Br.of (fun hc => ?_) fun _ => ⟨rfl, fun N3 hN3 => ⟨by omega, done, rfl, hm.symm, hf, hk, by omega⟩⟩)
   have := of_decide_eq_true hc; omega
 | ⟨nm, ty, lv⟩ :: ts, rest, hr, done, es, hf, hnd, hfl, hlen, T, hT, b0, N, m, c, t, k, K, hk, hK, hK2, q, N1, hN1, hm => by
   obtain ⟨d, ds, rfl, hdi, hds⟩ := hr
   obtain ⟨t0, t1, rfl, hs, ht⟩ := hdi
   cases ty with
   | mk kk lt =>
   obtain ⟨aT, esT, cT, hT01, hlenT, hesT⟩ := Ty.is_mk.1 ht
   injection hT01 with hT01
   injection hT01 with e1 e2
   injection e2 with e2 _
   subst e1; subst e2
   simp only [zA4, Ty.cnt] at hK
   have hlt : (done.length : Int) < (m : Int) := by rw [hm]; simp; omega
   have hlt2 : ∀ d : D, done.length < (done ++ d :: ds).length := fun d => by simp
   have hfoot : ∀ (x y z : Value) (es' : List D), zA es' = zA esT → es'.length = esT.length → (D.ag [.lit x, .lit y, .sl aT 2 es' cT, .lit z]).foot = (D.ag [.lit (.string nm), .lit (.int .i64 kk), .sl aT 2 esT cT, .lit (.bool lv)]).foot := fun x y z es' h1 h2 => by
    have := tW (a := aT) (z := 2) (c := cT) h2 h1
    simp only [D.foot, zA] at this ⊢
    rw [this]
   have hfT : (D.ag [.lit (.string nm), .lit (.int .i64 kk), .sl aT 2 esT cT, .lit (.bool lv)]).foot = (D.sl aT 2 esT cT).foot := by simp only [D.foot, zA, List.nil_append, List.append_nil]
   have hnd1 : (D.sl aT 2 esT cT).foot.Nodup := by rw [← hfT]; exact zIh (b := []) hnd
   have hfl1 : (D.sl aT 2 esT cT).Flat0 := hfl.1.2.2.1
   have hsub : ∀ b ∈ (D.sl aT 2 esT cT).foot, b ∈ T := fun b hb => hT b (hf ▸ by rw [zC]; exact List.mem_append_right _ (by simp only [zA]; exact List.mem_append_left _ (hfT ▸ hb)))
   refine wU _ _ _ _ _ _ _ _ _ _ _ _ (Br.of (fun _ => ?_) fun hc => absurd hlt (of_decide_eq_false hc))
   intro N2 hN2
   refine zKg k hk (by omega) N2 _ fun s N3 hN3 => ?_
   intro hle
   rw [i64_in (k + 1) (by omega)]
   simp only [Int.toNat_natCast, Nat.zero_add, tH, zBV, zF1, p40, p41]
   have B : ∀ x : D, (0 ≤ (done.length : Int) ∧ (done.length : Int) < (m : Int) ∧ done.length < (done ++ x :: ds).length) := fun x => ⟨by omega, hlt, hlt2 x⟩
   refine ⟨B _, hlt2 _, B _, hlt2 _, B _, hlt2 _, aT, esT, cT, rfl, ⟨hnd1, hfl1⟩, ⟨hsub⟩, hlt2 _, by simp, rfl, ⟨si hnd (hfoot _ _ _ esT rfl rfl)⟩, ⟨by simp⟩, fun N4 hN4 => ?_⟩
   rw [i64_in (k + 1 + 1) (by omega)]
   refine vl lt esT (zB7 hesT) aT cT ⟨hnd1, hfl1⟩ hlenT (k + 1 + 1) (by omega) (by omega) N4 _ fun es1' N5 hN5 h1 h2 h3 => ?_
   have hk3 := xQ lt (k + 1 + 1)
   intro hle2
   rw [i64_in ((zL lt (k + 1 + 1)).2 + 1) (by omega), i64_in ((done.length : Int) + 1) (by rw [hm] at hlt; simp at hlt hlen; omega)]
   simp only [Int.toNat_natCast, Nat.zero_add, tH, zBV, zF1, p42, p43]
   refine ⟨by omega, B _, hlt2 _, ?_⟩
   have hfx := hfoot (.string s) (.int .i64 (k + 1)) (.bool (Int.tmod (zL lt (k + 1 + 1)).2 3 == 0)) es1' h2 h3
   have := zJ8 ts ds hds (done ++ [.ag [.lit (.string s), .lit (.int .i64 (k + 1)), .sl aT 2 es1' cT, .lit (.bool (Int.tmod (zL lt (k + 1 + 1)).2 3 == 0))]]) es
    (by rw [List.append_assoc, List.singleton_append, zAL hfx]; exact hf) (by rw [List.append_assoc, List.singleton_append]; exact si hnd hfx) hfl.2 (by simpa using hlen) T hT b0 N m c t ((zL lt (k + 1 + 1)).2 + 1) K
    (by omega) (by omega) hK2 q N5 (by omega) (by rw [hm]; simp)
   have e1 : ((done ++ [D.ag [.lit (.string s), .lit (.int .i64 (k + 1)), .sl aT 2 es1' cT, .lit (.bool (Int.tmod (zL lt (k + 1 + 1)).2 3 == 0))]]).length : Int) = (done.length : Int) + 1 := by simp
   rw [e1] at this
   simpa using this
theorem zIj {g : List Pm} {es : List D} (h : Pms g es) (a : Option Addr) (c : Nat) (ht : Tree (.sl a 4 es c)) (k : Int) (hk : 0 ≤ k) (hk2 : k + 3 * zA4 g ≤ 288230376151711744) (N : Nat) (R : D → Int → Nat → Prop)
  (hR : ∀ es' k' N', N ≤ N' → zA es' = zA es → es'.length = es.length → 0 ≤ k' → k' ≤ k + 3 * zA4 g → R (.sl a 4 es' c) k' N') : MC prog 17 (.sl a 4 es c) k N R := by
 have hlen := h.len
 by_cases hne : es = []
 ·subst hne
  have hg : g = [] := List.eq_nil_of_length_eq_zero (by have := h.all.len; simpa using this.symm)
  subst hg
  refine zJv (zAo N a [] c k _ fun _ => qX _ _ _ _ _ _ _ _ (Br.of (fun hc => ?_) fun _ N2 hN2 => ?_))
  ·simp at hc
  ·exact hR [] k N2 hN2 rfl rfl hk (by simp [zA4])
 ·cases a with
  | none => exact zFu (by kernel_rfl) hne
  | some ad =>
    have hfoot : (D.sl (some ad) 4 es c).foot = ad.block :: zA es := by simp [D.foot, hne]
    have hnd := ht.nd
    rw [hfoot] at hnd
    refine zA1 N ad es c k R (fun k' x N' => N ≤ N' ∧ ∃ es', x = .ag es' ∧ es'.length = es.length ∧ zA es' = zA es ∧ 0 ≤ k' ∧ k' ≤ k + 3 * zA4 g) ht hne (by unfold maxLen; omega) (fun t => ?_) ?_
    ·have := zJ8 g es h.all [] es rfl (List.nodup_cons.1 hnd).2 ht.fl.2 hlen (D.sl (some ad) 4 es c).foot (fun b hb => by rw [hfoot]; simp [hb]) ad.block N es.length c t k (k + 3 * zA4 g) hk (Int.le_refl _) hk2 es.length N (Nat.le_refl _) rfl
     simpa using this
    ·rintro k' x N' ⟨hN', es', rfl, h1, h2, h3, h4⟩
     exact ⟨es', rfl, h1, h2, hR es' k' N' hN' h2 h1 h3 h4⟩
end Go.Proofs.YtfkmegifjiiclaaGreat

/- Bodies, as the reference has them: sizes and depths of terms, parameters, the type of a body. -/
set_option linter.unusedVariables false
set_option linter.unusedSimpArgs false
namespace Go.Proofs.YtfkmegifjiiclaaGreat
open Go Go.Proofs Go.Proofs.Tryz Go.IntWalk

mutual
def Tm.sz : Tm → Nat
 | .mk _ _ _ _ _ _ l => 1 + zBp l
def zBp : List Tm → Nat
 | [] => 0
 | t :: ts => t.sz + zBp ts
end
mutual
def Tm.dp : Tm → Nat
 | .mk _ _ _ _ _ _ l => zB1 l + 1
def zB1 : List Tm → Nat
 | [] => 0
 | t :: ts => max t.dp (zB1 ts)
end
mutual
theorem Tm.sz_cnt : ∀ t : Tm, t.sz ≤ t.cnt
 | .mk _ _ _ _ ty re l => by simp only [Tm.sz, Tm.cnt]; have := zCw l; omega
theorem zCw : ∀ l : List Tm, zBp l ≤ zJ l
 | [] => Nat.le_refl _
 | t :: ts => by simp only [zBp, zJ]; have := t.sz_cnt; have := zCw ts; omega
end
mutual
theorem Tm.dp_cnt : ∀ t : Tm, t.dp ≤ t.cnt
 | .mk _ _ _ _ ty re l => by simp only [Tm.dp, Tm.cnt]; have := qu l; omega
theorem qu : ∀ l : List Tm, zB1 l ≤ zJ l
 | [] => Nat.le_refl _
 | t :: ts => by simp only [zB1, zJ]; have := t.dp_cnt; have := qu ts; omega
end
/-- one form of a body's nodes -/
def zBy (k : Int) : Bool := inB k 1 5 || k == 8
mutual
def Tm.isB : Tm → Bool
 | .mk k _ _ _ _ _ l => zLO l && zBy k
def zLO : List Tm → Bool
 | [] => true
 | t :: ts => t.isB && zLO ts
end
def Tm.vd (t : Tm) : Bool := decide (t.sz ≤ 80) && decide (t.dp ≤ 20) && t.ok

theorem po : ∀ (t : Tm) (d : D), t.Is d → ∀ n : Int, 0 ≤ n → n ≤ 1000 → tf 137 [.dg 9 d, .int .i64 n] (if (t.sz : Int) ≤ n then n - t.sz else -1) := by
 refine Tm.ind fun k nm ot n0 ty re l ih d hd n hn0 hn1 N Q hQ => ?_
 obtain ⟨t0, t1, r0, r1, a, es, c, rfl, hh, hlen, hes⟩ := Tm.is_mk.1 hd
 refine zFg N _ n Q fun _ => ?_
 have key := up hes hlen (fun i xs => ∀ (m : Int) (N' : Nat), N ≤ N' → -1 ≤ m → m ≤ 1000 → (∀ N'', N' ≤ N'' → Q (if m < 0 then -1 else if (zBp xs : Int) ≤ m then m - zBp xs else -1) N'') →
  wC Q N m i (.ag [.lit (.int .i64 k), .lit (.string nm), .lit (.string ot), .lit (.int .i64 n0), t0, t1, r0, r1, .sl a 9 es c]) N') ?_ ?_
 ·rw [i64_in _ (by omega)]
  refine key (n - 1) N (Nat.le_refl _) (by omega) (by omega) fun N' hN' => Qi (hQ N' hN') ?_
  simp only [Tm.sz]
  (repeat' split) <;> omega
 ·intro i hlt _ m N' hN' h1 h2 hQ'
  refine sc _ _ _ _ _ _ ?_
  repeat' first|with_reducible intro _|simp only[hlt,Y1,Y2,Y3,Y4]|(with_reducible first|refine X1 ?_ ?_|refine X2 ?_ ?_|refine X3 ?_ ?_|refine X4 ?_ ?_|refine X5 ?_ ?_|refine X6 ?_ ?_|refine X7 ?_ ?_|refine X8 ?_ ?_|refine X9 ?_ ?_)|refine⟨_,_,_,rfl,?_⟩|refine⟨_,rfl,?_⟩|((with_reducible refine And.intro ?_ ?_);·first|omega|trivial|(show _=_;rfl)|((with_reducible refine And.intro ?_ ?_)<;>first|omega|trivial|(show _=_;rfl)))|fail
  refine Qi (hQ' _ (by assumption)) ?_
  simp only [zBp]
  (repeat' split) <;> omega
 ·intro i x xs hat _ ih2 m N' hN' h1 h2 hQ'
  have hb := hat.b
  refine sc _ _ _ _ _ _ ?_
  repeat' first|with_reducible intro _|simp only[hat.lt, hat.w, Int.toNat_natCast,Y1,Y2,Y3,Y4]|(with_reducible first|refine X1 ?_ ?_|refine X2 ?_ ?_|refine X3 ?_ ?_|refine X4 ?_ ?_|refine X5 ?_ ?_|refine X6 ?_ ?_|refine X7 ?_ ?_|refine X8 ?_ ?_|refine X9 ?_ ?_)|refine⟨_,_,_,rfl,?_⟩|refine⟨_,rfl,?_⟩|((with_reducible refine And.intro ?_ ?_);·first|omega|trivial|(show _=_;rfl)|((with_reducible refine And.intro ?_ ?_)<;>first|omega|trivial|(show _=_;rfl)))|refine (ih x hat.m _ hat.r m (by omega) (by omega)) _ _ ?_|fail
  ·refine ih2 _ _ (by omega) (by split <;> omega) (by split <;> omega) fun N'' hN'' => Qi (hQ' N'' (by omega)) ?_
   simp only [zBp]
   (repeat' split) <;> omega
  ·refine Qi (hQ' _ (by assumption)) ?_
   rw [if_pos (by omega)]
   omega
theorem zEM : ∀ (t : Tm) (d : D), t.Is d → t.cnt ≤ 1073741824 → tf 138 [.dg 9 d] t.dp := by
 refine Tm.ind fun k nm ot n0 ty re l ih d hd hc N Q hQ => ?_
 obtain ⟨t0, t1, r0, r1, a, es, c, rfl, hh, hlen, hes⟩ := Tm.is_mk.1 hd
 refine zD9 N _ Q fun _ => ?_
 simp only [Tm.cnt] at hc
 have hdl := qu l
 have key := up hes hlen (fun i xs => ∀ (m : Nat) (N' : Nat), N ≤ N' → max m (zB1 xs) = zB1 l → xe Q N (m : Int) i (.ag [.lit (.int .i64 k), .lit (.string nm), .lit (.string ot), .lit (.int .i64 n0), t0, t1, r0, r1, .sl a 9 es c]) N') ?_ ?_
 ·exact key 0 N (Nat.le_refl _) (by omega)
 ·intro i hlt _ m N' hN' hm
  simp only [zB1] at hm
  refine sJ _ _ _ _ _ _ ?_
  repeat' first|with_reducible intro _|simp only[hlt,Y1,Y2,Y3,Y4]|(with_reducible first|refine X1 ?_ ?_|refine X2 ?_ ?_|refine X3 ?_ ?_|refine X4 ?_ ?_|refine X5 ?_ ?_|refine X6 ?_ ?_|refine X7 ?_ ?_|refine X8 ?_ ?_|refine X9 ?_ ?_)|refine⟨_,_,_,rfl,?_⟩|refine⟨_,rfl,?_⟩|((with_reducible refine And.intro ?_ ?_);·first|omega|trivial|(show _=_;rfl)|((with_reducible refine And.intro ?_ ?_)<;>first|omega|trivial|(show _=_;rfl)))|fail
  rw [i64_in _ (by omega)]
  refine Qi (hQ _ (Nat.le_trans hN' (by assumption))) ?_
  simp only [Tm.dp]
  omega
 ·intro i x xs hat _ ih2 m N' hN' hm
  have hb := hat.b
  have hxc := zR hat.m
  simp only [zB1] at hm
  refine sJ _ _ _ _ _ _ ?_
  repeat' first|with_reducible intro _|simp only[hat.lt, hat.w, Int.toNat_natCast,Y1,Y2,Y3,Y4]|(with_reducible first|refine X1 ?_ ?_|refine X2 ?_ ?_|refine X3 ?_ ?_|refine X4 ?_ ?_|refine X5 ?_ ?_|refine X6 ?_ ?_|refine X7 ?_ ?_|refine X8 ?_ ?_|refine X9 ?_ ?_)|refine⟨_,_,_,rfl,?_⟩|refine⟨_,rfl,?_⟩|((with_reducible refine And.intro ?_ ?_);·first|omega|trivial|(show _=_;rfl)|((with_reducible refine And.intro ?_ ?_)<;>first|omega|trivial|(show _=_;rfl)))|refine (ih x hat.m _ hat.r (by omega)) _ _ ?_|refine (zBQ _ _) _ _ ?_|fail
  have e : max (m : Int) (x.dp : Int) = ((max m x.dp : Nat) : Int) := by omega
  rw [e]
  exact ih2 _ _ (by omega) (by omega)
theorem pD (t : Tm) (d : D) (hd : t.Is d) (hc : t.cnt ≤ 1073741824) : wS 86 [.dg 9 d] t.vd := fun N Q hQ => by
 refine qn N _ Q fun _ => ?_
 by_cases h80 : t.sz ≤ 80
 ·have h1 : ((t.sz : Int) ≤ 80) := by omega
  repeat' first|with_reducible intro _|simp only[if_pos h1,Y1,Y2,Y3,Y4]|(with_reducible first|refine X1 ?_ ?_|refine X2 ?_ ?_|refine X3 ?_ ?_|refine X4 ?_ ?_|refine X5 ?_ ?_|refine X6 ?_ ?_|refine X7 ?_ ?_|refine X8 ?_ ?_|refine X9 ?_ ?_)|refine⟨_,_,_,rfl,?_⟩|refine⟨_,rfl,?_⟩|((with_reducible refine And.intro ?_ ?_);·first|omega|trivial|(show _=_;rfl)|((with_reducible refine And.intro ?_ ?_)<;>first|omega|trivial|(show _=_;rfl)))|refine (po t d hd _ (by omega) (by omega)) _ _ ?_|refine (zEM t d hd hc) _ _ ?_|refine (zGW t d hd hc) _ _ ?_|fail
  all_goals first | omega | skip
  ·have h8 : t.dp ≤ 20 := by omega
   refine Qb (hQ _ (by omega)) ?_; simp [Tm.vd, *]
  ·have h8 : ¬ t.dp ≤ 20 := by omega
   refine Qb (hQ _ (by omega)) ?_; simp [Tm.vd, *]
 ·have h1 : ¬ ((t.sz : Int) ≤ 80) := by omega
  repeat' first|with_reducible intro _|simp only[if_neg h1,Y1,Y2,Y3,Y4]|(with_reducible first|refine X1 ?_ ?_|refine X2 ?_ ?_|refine X3 ?_ ?_|refine X4 ?_ ?_|refine X5 ?_ ?_|refine X6 ?_ ?_|refine X7 ?_ ?_|refine X8 ?_ ?_|refine X9 ?_ ?_)|refine⟨_,_,_,rfl,?_⟩|refine⟨_,rfl,?_⟩|((with_reducible refine And.intro ?_ ?_);·first|omega|trivial|(show _=_;rfl)|((with_reducible refine And.intro ?_ ?_)<;>first|omega|trivial|(show _=_;rfl)))|refine (po t d hd _ (by omega) (by omega)) _ _ ?_|fail
  all_goals first | omega | skip
  refine Qb (hQ _ (by omega)) ?_; simp [Tm.vd, *]
theorem zHs : ∀ (t : Tm) (d : D), t.Is d → wS 87 [.dg 9 d] t.isB := by
 refine Tm.ind fun k nm ot n0 ty re l ih d hd N Q hQ => ?_
 obtain ⟨t0, t1, r0, r1, a, es, c, rfl, hh, hlen, hes⟩ := Tm.is_mk.1 hd
 refine zHw N _ Q fun _ => ?_
 have key := up hes hlen (fun i xs => ∀ (N' : Nat), N ≤ N' → (∀ N'', N' ≤ N'' → Q (zLO xs && zBy k) N'') → wd Q N i (.ag [.lit (.int .i64 k), .lit (.string nm), .lit (.string ot), .lit (.int .i64 n0), t0, t1, r0, r1, .sl a 9 es c]) N') ?_ ?_
 ·exact key N (Nat.le_refl _) hQ
 ·intro i hlt _ N' hN' hQ'
  refine qA _ _ _ _ _ ?_
  repeat' first|with_reducible intro _|simp only[hlt,Y1,Y2,Y3,Y4]|(with_reducible first|refine X1 ?_ ?_|refine X2 ?_ ?_|refine X3 ?_ ?_|refine X4 ?_ ?_|refine X5 ?_ ?_|refine X6 ?_ ?_|refine X7 ?_ ?_|refine X8 ?_ ?_|refine X9 ?_ ?_)|refine⟨_,_,_,rfl,?_⟩|refine⟨_,rfl,?_⟩|((with_reducible refine And.intro ?_ ?_);·first|omega|trivial|(show _=_;rfl)|((with_reducible refine And.intro ?_ ?_)<;>first|omega|trivial|(show _=_;rfl)))|refine (xm _ _ _) _ _ ?_|fail
  all_goals (refine Qb (hQ' _ (by omega)) ?_; simp [zLO, zBy, *])
 ·intro i x xs hat _ ih2 N' hN' hQ'
  have hb := hat.b
  refine qA _ _ _ _ _ ?_
  repeat' first|with_reducible intro _|simp only[hat.lt, hat.w, Int.toNat_natCast,Y1,Y2,Y3,Y4]|(with_reducible first|refine X1 ?_ ?_|refine X2 ?_ ?_|refine X3 ?_ ?_|refine X4 ?_ ?_|refine X5 ?_ ?_|refine X6 ?_ ?_|refine X7 ?_ ?_|refine X8 ?_ ?_|refine X9 ?_ ?_)|refine⟨_,_,_,rfl,?_⟩|refine⟨_,rfl,?_⟩|((with_reducible refine And.intro ?_ ?_);·first|omega|trivial|(show _=_;rfl)|((with_reducible refine And.intro ?_ ?_)<;>first|omega|trivial|(show _=_;rfl)))|refine (ih x hat.m _ hat.r) _ _ ?_|fail
  ·refine Qb (hQ' _ (by omega)) ?_; simp [zLO, *]
  ·exact ih2 _ (by omega) fun N'' h => Qb (hQ' N'' (by omega)) (by simp [zLO, *])
theorem zEB (l : List ByteArray) (hl : l.length ≤ 4611686018427387904) (a : Option Addr) (c : Nat) (s : ByteArray) : tf 136 [.sv a 0 (xD l) c, .str s] (zA9 (fun x => decide (x = s)) l 0) := fun N Q hQ => by
 have hes := zC7 l
 have hlen : (xD l).length ≤ 4611686018427387904 := by rw [hes.len]; exact hl
 refine zDo N a _ c s Q fun _ => ?_
 refine up hes hlen (fun i xs => ∀ (N' : Nat), N ≤ N' → (∀ N'', N' ≤ N'' → Q (zA9 (fun x => decide (x = s)) xs i) N'') → xa Q N a (xD l) c s i N') ?_ ?_ N (Nat.le_refl _) hQ
 ·intro i hlt _ N' hN' hQ'
  refine sO _ _ _ _ _ _ _ _ ?_
  repeat' first|with_reducible intro _|simp only[hlt,Y1,Y2,Y3,Y4]|(with_reducible first|refine X1 ?_ ?_|refine X2 ?_ ?_|refine X3 ?_ ?_|refine X4 ?_ ?_|refine X5 ?_ ?_|refine X6 ?_ ?_|refine X7 ?_ ?_|refine X8 ?_ ?_|refine X9 ?_ ?_)|refine⟨_,_,_,rfl,?_⟩|refine⟨_,rfl,?_⟩|((with_reducible refine And.intro ?_ ?_);·first|omega|trivial|(show _=_;rfl)|((with_reducible refine And.intro ?_ ?_)<;>first|omega|trivial|(show _=_;rfl)))|fail
  exact hQ' _ (by omega)
 ·intro i x xs hat _ ih2 N' hN' hQ'
  have hb := hat.b
  have hr := hat.r
  simp only [zA9] at hQ'
  refine sO _ _ _ _ _ _ _ _ ?_
  repeat' first|with_reducible intro _|simp only[hat.lt, hat.w, Int.toNat_natCast, hr,Y1,Y2,Y3,Y4]|(with_reducible first|refine X1 ?_ ?_|refine X2 ?_ ?_|refine X3 ?_ ?_|refine X4 ?_ ?_|refine X5 ?_ ?_|refine X6 ?_ ?_|refine X7 ?_ ?_|refine X8 ?_ ?_|refine X9 ?_ ?_)|refine⟨_,_,_,rfl,?_⟩|refine⟨_,rfl,?_⟩|((with_reducible refine And.intro ?_ ?_);·first|omega|trivial|(show _=_;rfl)|((with_reducible refine And.intro ?_ ?_)<;>first|omega|trivial|(show _=_;rfl)))|fail
  ·rename_i h _ _; subst h; exact Qi (hQ' _ (by omega)) (by simp)
  ·rename_i h; exact ih2 _ hN' fun N'' h2 => Qi (hQ' _ h2) (by rw [if_neg (by simpa using h)]; simp)
/-- the parameters are well formed, behind the names that were seen -/
def zER : List ByteArray → List Pm → Bool
 | _, [] => true
 | seen, p :: ps => ul p.nm && (p.ty.base && (!(seen.any fun x => decide (x = p.nm)) && zER (seen ++ [p.nm]) ps))
def rS (g : List Pm) : Bool := zER [] g && decide (g.length ≤ 5)
theorem zCl (l : List ByteArray) (s : ByteArray) : xD l ++ [.lit (.string s)] = xD (l ++ [s]) := by simp [xD]
theorem zAc (l : List ByteArray) : (xD l).length = l.length := by simp [xD]
theorem zBo {g : List Pm} {es : List D} (h : Pms g es) (hg : g.length ≤ 1073741824) (a : Option Addr) (c : Nat) : wS 85 [.sv a 4 es c] (rS g) := fun N Q hQ => by
 have hl := h.all.len
 refine zBX N a es c Q fun _ => ?_
 have key := up h.all h.len (fun i xs => ∀ (seen : List ByteArray) (q : Nat) (N' : Nat), N ≤ N' → seen.length = i → (∀ N'', N' ≤ N'' → Q (zER seen xs && decide (g.length ≤ 5)) N'') → y9 Q N a es c (xD seen).length q i (xD seen) q N') ?_ ?_
 ·exact key [] 0 N (Nat.le_refl _) rfl hQ
 ·intro i hlt hi seen q N' hN' hs hQ'
  refine uG _ _ _ _ _ _ _ _ _ _ _ ?_
  have e : (((xD seen).length : Nat) : Int) = (g.length : Int) := by rw [zAc]; omega
  repeat' first|with_reducible intro _|simp only[hlt, e,Y1,Y2,Y3,Y4]|(with_reducible first|refine X1 ?_ ?_|refine X2 ?_ ?_|refine X3 ?_ ?_|refine X4 ?_ ?_|refine X5 ?_ ?_|refine X6 ?_ ?_|refine X7 ?_ ?_|refine X8 ?_ ?_|refine X9 ?_ ?_)|refine⟨_,_,_,rfl,?_⟩|refine⟨_,rfl,?_⟩|((with_reducible refine And.intro ?_ ?_);·first|omega|trivial|(show _=_;rfl)|((with_reducible refine And.intro ?_ ?_)<;>first|omega|trivial|(show _=_;rfl)))|fail
  refine Qb (hQ' _ (by omega)) ?_
  rw [zER, Bool.true_and, Bool.eq_iff_iff, decide_eq_true_iff, decide_eq_true_iff]
  omega
 ·intro i x xs hat _ ih2 seen q N' hN' hs hQ'
  have hb := hat.b
  have hm := hat.m
  obtain ⟨t0, t1, hd, hnm, hty⟩ := hat.r
  simp only [zER] at hQ'
  refine uG _ _ _ _ _ _ _ _ _ _ _ ?_
  repeat' first|with_reducible intro _|simp only[hat.lt, hat.w, Int.toNat_natCast, hd,Y1,Y2,Y3,Y4]|(with_reducible first|refine X1 ?_ ?_|refine X2 ?_ ?_|refine X3 ?_ ?_|refine X4 ?_ ?_|refine X5 ?_ ?_|refine X6 ?_ ?_|refine X7 ?_ ?_|refine X8 ?_ ?_|refine X9 ?_ ?_)|refine⟨_,_,_,rfl,?_⟩|refine⟨_,rfl,?_⟩|((with_reducible refine And.intro ?_ ?_);·first|omega|trivial|(show _=_;rfl)|((with_reducible refine And.intro ?_ ?_)<;>first|omega|trivial|(show _=_;rfl)))|refine (tq x.nm hnm) _ _ ?_|refine (tY x.ty _ hty) _ _ ?_|refine (zEB seen (by omega) _ _ x.nm) _ _ ?_|fail
  ·refine Qb (hQ' _ (by omega)) ?_; simp [*]
  ·refine Qb (hQ' _ (by omega)) ?_; simp [*]
  ·rename_i hx _ _
   have := v9 (fun y => decide (y = x.nm)) seen 0 (by omega)
   rw [decide_eq_true hx] at this
   refine Qb (hQ' _ (by omega)) ?_
   rw [← this]; simp
  ·rename_i hx
   have := v9 (fun y => decide (y = x.nm)) seen 0 (by omega)
   rw [decide_eq_false hx] at this
   refine ⟨by unfold zB; rw [List.length_append, zAc]; simp only [List.length_cons, List.length_nil]; omega, fun c1 => ?_⟩
   rw [zCl]
   refine ih2 (seen ++ [x.nm]) _ _ (by omega) (by simp [hs]) fun N'' h => Qb (hQ' N'' (by omega)) ?_
   rw [← this]; clear this; simp [*]
def xw (g : List Pm) : List Tg := g.map fun p => ⟨p.nm, p.ty, 0⟩
theorem sw (g : List Pm) : (xw g).length = g.length := by simp [xw]
theorem qk {g : List Pm} {es : List D} (h : Pms g es) (hg : g.length ≤ 1073741824) (a : Option Addr) (c : Nat) (N : Nat) (Q : QT [.sl 4])
  (hQ : ∀ a' es' c' N', N ≤ N' → Ctx (xw g) es' → Q a' es' c' N') : ACalls prog 61 [.sl 4] [.sv a 4 es c] N Q := by
 have hl := h.all.len
 refine zFq N a es c Q fun _ => ?_
 have key := up h.all h.len (fun i xs => ∀ (done : List D) (q : Nat) (N' : Nat), N ≤ N' → All2 Tg.Is ((xw g).take i) done → done.length = i → wD Q N a es c done.length q i done q N') ?_ ?_
 ·exact key [] 0 N (Nat.le_refl _) rfl rfl
 ·intro i hlt hi done q N' hN' hd hs
  refine rN _ _ _ _ _ _ _ _ _ _ _ ?_
  rw [List.take_of_length_le (by rw [sw]; omega)] at hd
  repeat' first|with_reducible intro _|simp only[hlt,Y1,Y2,Y3,Y4]|(with_reducible first|refine X1 ?_ ?_|refine X2 ?_ ?_|refine X3 ?_ ?_|refine X4 ?_ ?_|refine X5 ?_ ?_|refine X6 ?_ ?_|refine X7 ?_ ?_|refine X8 ?_ ?_|refine X9 ?_ ?_)|refine⟨_,_,_,rfl,?_⟩|refine⟨_,rfl,?_⟩|((with_reducible refine And.intro ?_ ?_);·first|omega|trivial|(show _=_;rfl)|((with_reducible refine And.intro ?_ ?_)<;>first|omega|trivial|(show _=_;rfl)))|fail
  exact hQ _ _ _ _ (by omega) ⟨by omega, hd⟩
 ·intro i x xs hat _ ih2 done q N' hN' hd hs
  have hb := hat.b
  have hm := hat.m
  obtain ⟨t0, t1, hd', hnm, hty⟩ := hat.r
  refine rN _ _ _ _ _ _ _ _ _ _ _ ?_
  have hat2 : (xw g)[i]? = some ⟨x.nm, x.ty, 0⟩ := by rw [xw, List.getElem?_map, hat.g]; rfl
  repeat' first|with_reducible intro _|simp only[hat.lt, hat.w, Int.toNat_natCast, hd',Y1,Y2,Y3,Y4]|(with_reducible first|refine X1 ?_ ?_|refine X2 ?_ ?_|refine X3 ?_ ?_|refine X4 ?_ ?_|refine X5 ?_ ?_|refine X6 ?_ ?_|refine X7 ?_ ?_|refine X8 ?_ ?_|refine X9 ?_ ?_)|refine⟨_,_,_,rfl,?_⟩|refine⟨_,rfl,?_⟩|((with_reducible refine And.intro ?_ ?_);·first|omega|trivial|(show _=_;rfl)|((with_reducible refine And.intro ?_ ?_)<;>first|omega|trivial|(show _=_;rfl)))|fail
  refine ⟨by unfold zB; rw [List.length_append]; simp only [List.length_cons, List.length_nil]; omega, fun c1 => ?_⟩
  exact ih2 _ _ _ hN' (by rw [zY hat2]; exact hd.snoc ⟨_, _, rfl, hnm, hty⟩) (by simp [hs])
/-- a body's type, or none -/
def y5 (g : List Pm) (e : Tm) : Option Ty := if rS g = true ∧ e.vd = true ∧ e.isB = true then e.type (xw g) 0 else none
theorem zC6 : ∀ {g : List Pm} {seen : List ByteArray} {x : Pm}, zER seen g = true → x ∈ g → ul x.nm = true ∧ x.ty.base = true
 | p :: ps, seen, x, h, hx => by
   simp only [zER, Bool.and_eq_true] at h
   rcases List.mem_cons.1 hx with rfl | hx
   ·exact ⟨h.1, h.2.1⟩
   ·exact zC6 h.2.2.2 hx
theorem zE1 {t : Ty} (h : t.base = true) : t.valid = true ∧ t.cnt = 1 := by
 cases t with
 | mk k l =>
   simp only [Ty.base, Ty.k, Ty.as, Bool.and_eq_true, Bool.or_eq_true, beq_iff_eq] at h
   have hl : l = [] := List.eq_nil_of_length_eq_zero (by omega)
   subst hl
   refine ⟨?_, rfl⟩
   simp only [Ty.valid, Ty.cnt, zH, Ty.dep, ud, Ty.form, uV, rr]
   rcases h.1 with rfl | rfl <;> decide
mutual
theorem zI7 : ∀ t : Tm, t.isB = true → t.lev 0 = true
 | .mk k _ _ _ _ _ l, h => by
   simp only [Tm.isB, Bool.and_eq_true, zBy, Bool.or_eq_true, yJ, beq_iff_eq] at h
   have e : zu k 0 = 0 := by unfold zu; rw [if_neg (by omega), if_neg (by omega)]
   simp only [Tm.lev, e, zJ0 l h.1, Bool.and_true]; decide
theorem zJ0 : ∀ l : List Tm, zLO l = true → qI l 0 = true
 | [], _ => rfl
 | t :: ts, h => by
   simp only [zLO, Bool.and_eq_true] at h
   simp only [qI, zI7 t h.1, zJ0 ts h.2, Bool.and_true]
end
theorem zHz {g : List Pm} {x : Tg} (h : x ∈ xw g) : ∃ p ∈ g, x = ⟨p.nm, p.ty, 0⟩ := by
 obtain ⟨p, hp, rfl⟩ := List.mem_map.1 h
 exact ⟨p, hp, rfl⟩
theorem zKM {g : List Pm} {e : Tm} (hp : rS g = true) (hv : e.vd = true) (hb : e.isB = true) (hc : e.cnt ≤ 536870000) : Pre (xw g) e 0 := by
 simp only [rS, Bool.and_eq_true, decide_eq_true_eq] at hp
 simp only [Tm.vd, Bool.and_eq_true] at hv
 refine ⟨hv.2, zI7 e hb, by rw [sw]; omega, fun x hx => ?_⟩
 obtain ⟨p, hpg, rfl⟩ := zHz hx
 have := (zE1 (zC6 hp.1 hpg).2).2
 show p.ty.cnt ≤ 64
 omega
theorem zCu {g : List Pm} {es : List D} (h : Pms g es) (hg : g.length ≤ 1073741824) {e : Tm} {d : D} (he : e.Is d) (hc : e.cnt ≤ 536870000) (a : Option Addr) (c : Nat) : zPL 39 [.sv a 4 es c, .dg 9 d] (y5 g e) := fun N Q hQ => by
 refine zC4 N a es c d Q fun _ _ => ?_
 repeat' first|with_reducible intro _|simp only[Y1,Y2,Y3,Y4]|(with_reducible first|refine X1 ?_ ?_|refine X2 ?_ ?_|refine X3 ?_ ?_|refine X4 ?_ ?_|refine X5 ?_ ?_|refine X6 ?_ ?_|refine X7 ?_ ?_|refine X8 ?_ ?_|refine X9 ?_ ?_)|refine⟨_,_,_,rfl,?_⟩|refine⟨_,rfl,?_⟩|((with_reducible refine And.intro ?_ ?_);·first|omega|trivial|(show _=_;rfl)|((with_reducible refine And.intro ?_ ?_)<;>first|omega|trivial|(show _=_;rfl)))|refine (zBo h hg a c) _ _ ?_|refine (pD e d he (by omega)) _ _ ?_|refine (zHs e d he) _ _ ?_|refine (qk h hg a c) _ _ ?_|fail
 ·rw [show y5 g e = none by unfold y5; rw [if_neg (by simp [*])]] at hQ
  exact hQ _ _ (by omega) (xu 0)
 ·rw [show y5 g e = none by unfold y5; rw [if_neg (by simp [*])]] at hQ
  exact hQ _ _ (by omega) (xu 0)
 ·rw [show y5 g e = none by unfold y5; rw [if_neg (by simp [*])]] at hQ
  exact hQ _ _ (by omega) (xu 0)
 ·have hp : rS g = true := by assumption
  have hv : e.vd = true := by assumption
  have hb : e.isB = true := by assumption
  rw [show y5 g e = e.type (xw g) 0 by unfold y5; rw [if_pos ⟨hp, hv, hb⟩]] at hQ
  exact tI e d he _ _ _ _ _ (zKM hp hv hb hc) (by assumption) _ _ fun x N4 hN4 hx _ _ N5 hN5 => hQ _ _ (by omega) hx
end Go.Proofs.YtfkmegifjiiclaaGreat
