/- The laws' look at sizes, and copies, of terms and contexts. -/
import Derived.Test.YtfkmegifjiiclaaGreatVm
set_option linter.unusedVariables false
set_option linter.unusedSimpArgs false
namespace Go.Proofs.YtfkmegifjiiclaaGreat
open Go Go.Proofs Go.Proofs.Tryz Go.IntWalk

mutual
theorem zJo : ∀ (t : Ty) (n : Int), 0 ≤ n → zFR t n = -1 ∨ (0 ≤ zFR t n ∧ zFR t n + t.cnt = n + 1)
 | .mk _ l, n, h => by
   simp only [zFR, Ty.cnt]
   split
   ·exact .inl rfl
   ·rcases zJq l (n - l.length) (by omega) with h | h
    ·exact .inl h
    ·exact .inr (by omega)
theorem zJq : ∀ (l : List Ty) (n : Int), 0 ≤ n → zJQ l n = -1 ∨ (0 ≤ zJQ l n ∧ zJQ l n + zH l = n + l.length)
 | [], n, h => .inr (by simp [zJQ, zH, h])
 | t :: ts, n, h => by
   simp only [zJQ, zH, List.length_cons]
   split
   ·exact .inl rfl
   ·rcases zJo t n h with h1 | h1
    ·omega
    ·rcases zJq ts (zFR t n) (by omega) with h2 | h2
     ·exact .inl h2
     ·exact .inr (by omega)
end
/-- returns a number of which this holds -/
def zPQ (f : FuncId) (args : List PV) (P : Int → Prop) : Prop := ∀ (N : Nat) (Q : QT [.int .i64]), (∀ r N', N ≤ N' → P r → Q r N') → ACalls prog f [.int .i64] args N Q
theorem zOv (t : Ty) (d : D) (hd : t.Is d) (n : Int) (h0 : 0 ≤ n) (h1 : n ≤ 1048576) : zPQ 37 [.dg 2 d, .int .i64 n] fun r => r = -1 ∨ (0 ≤ r ∧ r + t.cnt = n + 1) := fun N Q hQ =>
 zKQ t d hd n h0 h1 N Q fun N' hN' => hQ _ N' hN' (zJo t n h0)

theorem zNm : ∀ (t : Tm) (d : D), t.Is d → ∀ n : Int, 0 ≤ n → n ≤ 1048576 → zPQ 10 [.dg 9 d, .int .i64 n] fun r => r = -1 ∨ (0 ≤ r ∧ r ≤ n ∧ (t.cnt : Int) ≤ 3 + 3 * (n - r)) := by
 refine Tm.ind fun k nm ot m ty re l ih d hd n h0 h1 N Q hQ => ?_
 obtain ⟨t0, t1, r0, r1, a, es, c, rfl, hh, hlen, hes⟩ := Tm.is_mk.1 hd
 have hl := hes.len
 have hnm := hh.nm
 have hot := hh.ot
 have hS : ∀ n : Int, 0 ≤ n → n ≤ 1048576 → zPQ 38 [.sv a 9 es c, .int .i64 n] fun r => r = -1 ∨ (0 ≤ r ∧ r ≤ n ∧ (zJ l : Int) ≤ 3 * (n - r)) := fun n h0 h1 N Q hQ => by
  refine zES N a es c n Q fun _ => ?_
  rw [i64_in _ (by omega)]
  have key : 0 ≤ n - (es.length : Int) → ∀ (m : Int) (N' : Nat), N ≤ N' → 0 ≤ m → m ≤ 1048576 → (∀ r N'', N' ≤ N'' → (r = -1 ∨ (0 ≤ r ∧ r ≤ m ∧ (zJ l : Int) ≤ 3 * l.length + 3 * (m - r))) → Q r N'') → yx Q N a es c m (0 : Nat) N' := fun _ => by
   refine up hes hlen (fun i xs => ∀ (m : Int) (N' : Nat), N ≤ N' → 0 ≤ m → m ≤ 1048576 → (∀ r N'', N' ≤ N'' → (r = -1 ∨ (0 ≤ r ∧ r ≤ m ∧ (zJ xs : Int) ≤ 3 * xs.length + 3 * (m - r))) → Q r N'') → yx Q N a es c m i N') ?_ ?_
   ·intro i hlt _ m N' hN' hm0 hm1 hQ'
    refine t4 _ _ _ _ _ _ _ _ ?_
    repeat' first|with_reducible intro _|simp only[hlt,Y1,Y2,Y3,Y4]|(with_reducible first|refine X1 ?_ ?_|refine X2 ?_ ?_|refine X3 ?_ ?_|refine X4 ?_ ?_|refine X5 ?_ ?_|refine X6 ?_ ?_|refine X7 ?_ ?_|refine X8 ?_ ?_|refine X9 ?_ ?_)|refine⟨_,_,_,rfl,?_⟩|refine⟨_,rfl,?_⟩|((with_reducible refine And.intro ?_ ?_);·first|omega|trivial|(show _=_;rfl)|((with_reducible refine And.intro ?_ ?_)<;>first|omega|trivial|(show _=_;rfl)))|fail
    exact hQ' _ _ (by omega) (.inr ⟨hm0, by omega, by simp [zJ]⟩)
   ·intro i x xs hat _ ih2 m N' hN' hm0 hm1 hQ'
    have hb := hat.b
    refine t4 _ _ _ _ _ _ _ _ ?_
    simp only [zJ, List.length_cons] at hQ'
    repeat' first|with_reducible intro _|simp only[hat.lt, hat.w, Int.toNat_natCast,Y1,Y2,Y3,Y4]|(with_reducible first|refine X1 ?_ ?_|refine X2 ?_ ?_|refine X3 ?_ ?_|refine X4 ?_ ?_|refine X5 ?_ ?_|refine X6 ?_ ?_|refine X7 ?_ ?_|refine X8 ?_ ?_|refine X9 ?_ ?_)|refine⟨_,_,_,rfl,?_⟩|refine⟨_,rfl,?_⟩|((with_reducible refine And.intro ?_ ?_);·first|omega|trivial|(show _=_;rfl)|((with_reducible refine And.intro ?_ ?_)<;>first|omega|trivial|(show _=_;rfl)))|refine (ih x hat.m _ hat.r m hm0 hm1) _ _ ?_|fail
    ·exact hQ' _ _ (by omega) (.inl rfl)
    ·rename_i r N2 hN2 hr hle hneg
     exact ih2 _ _ (by omega) (by omega) (by omega) fun r2 N'' h2 hr2 => hQ' _ _ (by omega) (by omega)
  repeat' first|with_reducible intro _|simp only[Y1,Y2,Y3,Y4]|(with_reducible first|refine X1 ?_ ?_|refine X2 ?_ ?_|refine X3 ?_ ?_|refine X4 ?_ ?_|refine X5 ?_ ?_|refine X6 ?_ ?_|refine X7 ?_ ?_|refine X8 ?_ ?_|refine X9 ?_ ?_)|refine⟨_,_,_,rfl,?_⟩|refine⟨_,rfl,?_⟩|((with_reducible refine And.intro ?_ ?_);·first|omega|trivial|(show _=_;rfl)|((with_reducible refine And.intro ?_ ?_)<;>first|omega|trivial|(show _=_;rfl)))|fail
  ·exact hQ _ _ (by omega) (.inl rfl)
  ·exact key (by omega) _ _ (Nat.le_refl _) (by omega) (by omega) fun r N'' h2 hr => hQ _ _ (by omega) (by omega)
 have c1 := ty.cnt_pos
 have c2 := re.cnt_pos
 refine zGU N _ n Q fun _ => ⟨_, rfl, ?_⟩
 rw [i64_in (n - (nm.size : Int)) (by omega)]
 simp only [Tm.cnt] at hQ
 refine Br.dec (fun hneg N' hN' => hQ _ _ hN' (.inl rfl)) fun hpos => ⟨_, rfl, ?_⟩
 rw [i64_in (n - (nm.size : Int) - (ot.size : Int)) (by omega)]
 refine Br.dec (fun hneg N' hN' => hQ _ _ hN' (.inl rfl)) fun hpos2 => ?_
 intro N1 hN1
 refine zOv _ _ hh.ty _ (by omega) (by omega) _ _ fun r1 N2 hN2 hr1 => ?_
 refine fun _ => Br.dec (fun hneg N' hN' => hQ _ _ (by omega) (.inl rfl)) fun hpos3 => ?_
 intro N3 hN3
 refine zOv _ _ hh.re _ (by omega) (by omega) _ _ fun r2 N4 hN4 hr2 => ?_
 refine fun _ => Br.dec (fun hneg N' hN' => hQ _ _ (by omega) (.inl rfl)) fun hpos4 => ⟨_, _, _, rfl, ?_⟩
 intro N5 hN5
 refine hS _ (by omega) (by omega) _ _ fun r3 N6 hN6 hr3 => ?_
 refine fun _ => Br.dec (fun hneg N' hN' => hQ _ _ (by omega) (.inl rfl)) fun hpos5 => ?_
 intro N7 hN7
 exact hQ _ _ (by omega) (by omega)
mutual
theorem Ty.sm_of : ∀ t : Ty, t.cnt ≤ 1073741824 → t.Sm
 | .mk _ l, h => by
   simp only [Ty.cnt] at h
   exact ⟨by have := tE l; omega, Ty.sms_of l (by omega)⟩
theorem Ty.sms_of : ∀ l : List Ty, zH l ≤ 1073741824 → zLm l
 | [], _ => trivial
 | t :: ts, h => by
   simp only [zH] at h
   exact ⟨Ty.sm_of t (by omega), Ty.sms_of ts (by omega)⟩
end
theorem zOw (t : Ty) (d : D) (hd : t.Is d) (hc : t.cnt ≤ 1073741824) : zBE 43 [.dg 2 d] t := fun N Q hQ => zKS t d hd (t.sm_of hc) N Q hQ
theorem wE {t : Ty} {d : D} {N N' : Nat} (h : t.Is d) (ho : Own N N' d) : OwnL N N' [D.cell d 0, D.cell d 1] := by
 cases t with
 | mk k l =>
   obtain ⟨a, es, c, rfl, _, _⟩ := Ty.is_mk.1 h
   show OwnL N N' [.lit (.int .i64 k), .sl a 2 es c]
   exact ⟨by simpa only [D.foot] using ho.nd, ho.fl, by simpa only [D.foot] using ho.lo, by simpa only [D.foot] using ho.hi⟩
/-- hands back a copy -/
def Cop (f : FuncId) (z : Nat) (args : List PV) (P : D → Prop) : Prop := ∀ (N : Nat) (Q : QT [.ag z]), (∀ d' N', N ≤ N' → P d' → Own N N' d' → Q d' N') → ACalls prog f [.ag z] args N Q
def zQZ (f : FuncId) (z : Nat) (args : List PV) (P : List D → Prop) : Prop := ∀ (N : Nat) (Q : QT [.sl z]), (∀ a' es' c' N', N ≤ N' → P es' → Own N N' (.sl a' z es' c') → Q a' es' c' N') → ACalls prog f [.sl z] args N Q
theorem zB6 : ∀ (t : Tm) (d : D), t.Is d → t.cnt ≤ 1073741824 → Cop 13 9 [.dg 9 d] t.Is := by
 refine Tm.ind fun k nm ot m ty re l ih d hd hc N Q hQ => ?_
 obtain ⟨t0, t1, r0, r1, a, es, c, rfl, hh, hlen, hes⟩ := Tm.is_mk.1 hd
 have hl := hes.len
 simp only [Tm.cnt] at hc
 have hlc := yT l
 have hS : zQZ 44 9 [.sv a 9 es c] (fun es' => All2 Tm.Is l es') := fun N Q hQ => by
  refine zEX N a es c Q fun _ => ⟨⟨by omega, by omega, by omega, by omega⟩, ?_⟩
  rw [Int.toNat_natCast]
  have key := up hes hlen (fun i xs => ∀ (done junk : List D) (N' : Nat), N ≤ N' → All2 Tm.Is (l.take i) done → done.length = i → junk.length = xs.length → OwnL N N' done → xZ Q N a es c es.length es.length i (done ++ junk) es.length N') ?_ ?_
  ·simpa using key [] (List.replicate es.length (.ag [.lit (.int .i64 0), .lit (.string (bytes [])), .lit (.string (bytes [])), .lit (.int .i64 0), .lit (.int .i64 0), .sl none 2 [] 0, .lit (.int .i64 0), .sl none 2 [] 0, .sl none 9 [] 0])) N (Nat.le_refl _) rfl rfl (by simp [hl]) tP
  ·intro i hlt hi done junk N' hN' hd hdl hj ho
   have : junk = [] := List.eq_nil_of_length_eq_zero (by simpa using hj)
   subst this
   rw [List.append_nil]
   refine sH _ _ _ _ _ _ _ _ _ _ _ ?_
   rw [List.take_of_length_le (by omega)] at hd
   have hdn : es.length = done.length := by omega
   repeat' first|with_reducible intro _|simp only[hlt,Y1,Y2,Y3,Y4]|(with_reducible first|refine X1 ?_ ?_|refine X2 ?_ ?_|refine X3 ?_ ?_|refine X4 ?_ ?_|refine X5 ?_ ?_|refine X6 ?_ ?_|refine X7 ?_ ?_|refine X8 ?_ ?_|refine X9 ?_ ?_)|refine⟨_,_,_,rfl,?_⟩|refine⟨_,rfl,?_⟩|((with_reducible refine And.intro ?_ ?_);·first|omega|trivial|(show _=_;rfl)|((with_reducible refine And.intro ?_ ?_)<;>first|omega|trivial|(show _=_;rfl)))|fail
   rename_i a' N3 hN3 hf N4 hN4
   exact hQ _ _ _ _ (by omega) hd ((uS ho hf hN3).mono (Nat.le_refl _) hN4)
  ·intro i x xs hat _ ih2 done junk N' hN' hd hdl hj ho
   have hb := hat.b
   have hxc := zR hat.m
   cases junk with
   | nil => simp at hj
   | cons y junk =>
     subst hdl
     refine sH _ _ _ _ _ _ _ _ _ _ _ ?_
     repeat' first|with_reducible intro _|simp only[hat.lt, hat.w, Int.toNat_natCast, Nat.zero_add, List.length_append, List.length_cons,Y1,Y2,Y3,Y4]|(with_reducible first|refine X1 ?_ ?_|refine X2 ?_ ?_|refine X3 ?_ ?_|refine X4 ?_ ?_|refine X5 ?_ ?_|refine X6 ?_ ?_|refine X7 ?_ ?_|refine X8 ?_ ?_|refine X9 ?_ ?_)|refine⟨_,_,_,rfl,?_⟩|refine⟨_,rfl,?_⟩|((with_reducible refine And.intro ?_ ?_);·first|omega|trivial|(show _=_;rfl)|((with_reducible refine And.intro ?_ ?_)<;>first|omega|trivial|(show _=_;rfl)))|refine (ih x hat.m _ hat.r (by omega)) _ _ ?_|fail
     all_goals first | (exfalso; omega) | skip
     rename_i N1 hN1 x' N2 hN2 hx hox _ _
     rw [zBV]
     have := ih2 (done ++ [x']) junk _ (by omega) (by rw [zY hat.g]; exact hd.snoc hx) (by simp) (by simpa using hj) (zW (ho.mono (Nat.le_refl _) hN1) (zN hox) (by omega) hN2)
     simpa using this
 refine zGB N _ Q fun _ => ?_
 repeat' first|with_reducible intro _|simp only[Y1,Y2,Y3,Y4]|(with_reducible first|refine X1 ?_ ?_|refine X2 ?_ ?_|refine X3 ?_ ?_|refine X4 ?_ ?_|refine X5 ?_ ?_|refine X6 ?_ ?_|refine X7 ?_ ?_|refine X8 ?_ ?_|refine X9 ?_ ?_)|refine⟨_,_,_,rfl,?_⟩|refine⟨_,rfl,?_⟩|((with_reducible refine And.intro ?_ ?_);·first|omega|trivial|(show _=_;rfl)|((with_reducible refine And.intro ?_ ?_)<;>first|omega|trivial|(show _=_;rfl)))|refine (zOw _ _ hh.ty (by omega)) _ _ ?_|refine (zOw _ _ hh.re (by omega)) _ _ ?_|refine hS _ _ ?_|fail
 rename_i N1 hN1 x N2 hN2 hx hox _ _ N3 hN3 y N4 hN4 hy hoy _ _ N5 hN5 a' es' c' N6 hN6 hes' hos _ _ N7 hN7
 refine hQ _ _ (by omega) (Tm.is_mk.2 ⟨_, _, _, _, _, _, _, rfl, ⟨hh.nm, hh.ot, Ty.is_cells hx, Ty.is_cells hy⟩, by have := hes'.len; omega, hes'⟩) ?_
 exact wm (zE (zE (zE (zE (zW ((wE hx hox).mono hN1 hN3) (zW ((wE hy hoy).mono (Nat.le_refl _) hN5) ((zN hos).mono (Nat.le_refl _) hN7) (by omega) (by omega)) (by omega) (by omega))))))
end Go.Proofs.YtfkmegifjiiclaaGreat
