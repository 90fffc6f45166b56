/- Steps: the program's, of parts. -/
import Derived.Test.YtnpjpplbkoammaaGreatDoorYa
set_option linter.unusedVariables false
set_option linter.unusedSimpArgs false
namespace Go.Proofs.YtnpjpplbkoammaaGreatDoor
open Go Go.Proofs Go.Proofs.Tryz Go.IntWalk
theorem zIb {s : ByteArray} (h : 0 < zHH s) : s = bytes [43] ∨ s = bytes [45] ∨ s = bytes [42] ∨ s = bytes [61] ∨ s = bytes [60] ∨ s = bytes [38] ∨ s = bytes [124] ∨ s = bytes [33] := by
 unfold zHH at h
 (repeat' split at h) <;> first | exact absurd h (by decide) | simp [*]
theorem zJj {s : ByteArray} (h : 0 < zHH s) {a b : Int} (ha : 0 ≤ a ∧ a ≤ 10006) (hb : 0 ≤ b ∧ b ≤ 10006) : (zZ s a b).2 = true := by
 have := zIb h
 unfold zZ
 rw [if_pos (y9.2 ha), if_pos (y9.2 hb)]
 (repeat' split) <;> first | rfl | (rcases this with h | h | h | h | h | h | h | h <;> contradiction)
def sV (s : ByteArray) : Bool := wb s || (decide (s = bytes [61]) || decide (s = bytes [60]))
theorem zLN {s : ByteArray} (h : 0 < zHH s) : zDR s = if sV s then 3 else 2 := by
 rcases zIb h with h | h | h | h | h | h | h | h <;> subst h <;> decide +kernel
theorem zEL (s : ByteArray) : vn 145 [.str s] (wb s) := fun N Q hQ =>
 zBJ N s Q (Br.str (fun e1 N1 hN1 => Qb (hQ _ hN1) (by simp [wb, e1])) fun e1 => Br.str (fun e2 N1 hN1 => Qb (hQ _ hN1) (by simp [wb, e2])) fun e2 N1 hN1 => Qb (hQ _ hN1) (by simp [wb, e1, e2, sw]))
theorem zHW (s : ByteArray) : vn 148 [.str s] (sV s) := fun N Q hQ =>
 zAY N s Q fun N1 hN1 => zEL s N1 _ fun N2 hN2 _ => Br.of (fun e0 N3 hN3 => Qb (hQ _ (by omega)) (by simp [sV, e0])) fun e0 => Br.str (fun e1 N3 hN3 => Qb (hQ _ (by omega)) (by simp [sV, e1])) fun e1 N3 hN3 => Qb (hQ _ (by omega)) (by simp [sV, e0, e1, sw])
theorem zKo (n : Int) (b : Bool) (N : Nat) (Q : QT [.ag 9]) (hQ : ∀ d N', N ≤ N' → (zJx (if b then 3 else 2) n).Is d → Q d N') : ACalls prog 147 [.ag 9] [.int .i64 n, .bool b] N Q := by
 refine zCz N n b Q (Br.of (fun h N1 hN1 => hQ _ _ hN1 (by rw [h]; exact zEZ)) fun h N2 hN2 => zFt N2 n _ fun N3 hN3 _ _ N4 hN4 => hQ _ _ (by omega) (by rw [h]; exact zEZ))
def zNn (f : FuncId) (args : List PV) (r : Tm × Bool) : Prop := ∀ (N : Nat) (Q : QT [.ag 9, .bool]), (∀ d N', N ≤ N' → r.1.Is d → Q d r.2 N') → ACalls prog f [.ag 9, .bool] args N Q
theorem zFn : tm0.Is (.ag [.lit (.int .i64 0), .lit (.string (bytes [])), .lit (.string (bytes [])), .lit (.int .i64 0), .lit (.int .i64 0), .sl none 2 [] 0, .lit (.int .i64 0), .sl none 2 [] 0, .sl none 9 [] 0]) :=
 Tm.is_mk.2 ⟨_, _, _, _, _, _, _, rfl, ⟨by decide, by decide, qU _, qU _⟩, by simp, rfl⟩
theorem zPl {n0 : Int} {nm ot : ByteArray} {ty re : Ty} {l : List Tm} (h : (Tm.mk 4 nm ot n0 ty re l).ok = true) : 0 < zHH nm := by
 simp only [Tm.ok, Bool.and_eq_true, zK, xb] at h
 have := h.2.1.2.2.2.2.2
 rw [if_pos trivial, Bool.and_eq_true] at this
 simpa using this.1
theorem zKS {e : Tm} (h : e.ok = true) (hk : e.kd = 2 ∨ e.kd = 3) : 0 ≤ e.no ∧ e.no ≤ 10006 := by
 cases e with
 | mk k nm ot n ty re l =>
 simp only [Tm.kd] at hk
 simp only [Tm.ok, Bool.and_eq_true, zK, inB] at h
 simp only [Tm.no]
 rcases hk with rfl | rfl
 ·have := h.2.1.2.2.2.2.1
  simp at this; omega
 ·have := h.2.1.2.2.2.2.1
  simp at this; omega
theorem zG8 (s : ByteArray) : zu s = 2 ∨ zu s = 3 := by unfold zu; split <;> simp
/-- what an operation of literals gives -/
def zNL (nm : ByteArray) (l : List Tm) : Tm × Bool := if l.all (fun x => x.kd == zu nm) then (zJx (zDR nm) (zZ nm (l.getD 0 tm0).no (l.getD 1 tm0).no).1, true) else (tm0, false)
theorem zLJ {n0 : Int} {nm ot : ByteArray} {ty re : Ty} {l : List Tm} {d : D} (hd : (Tm.mk 4 nm ot n0 ty re l).Is d) (hok : (Tm.mk 4 nm ot n0 ty re l).ok = true) : zNn 111 [.dg 9 d] (zNL nm l) := fun N Q hQ => by
 obtain ⟨t0, t1, r0, r1, a, es, c, rfl, hh, hlen, hes⟩ := Tm.is_mk.1 hd
 have hl := hes.len
 have hop := zPl hok
 have hl2 : l.length ≤ 2 := by
  have h1 := (xn hok).2.2.2.2 rfl
  have h2 := zLK nm
  omega
 have hparts : ∀ x ∈ l, x.ok = true := by
  simp only [Tm.ok, Bool.and_eq_true] at hok
  have h5 : ∀ {l : List Tm}, uZ l = true → ∀ x ∈ l, x.ok = true := fun {l} => by
   induction l with
   | nil => intro _ x hx; simp at hx
   | cons t ts ih =>
     intro h x hx
     simp only [uZ, Bool.and_eq_true] at h
     rcases List.mem_cons.1 hx with rfl | hx
     ·exact h.1
     ·exact ih h.2 x hx
  exact h5 hok.1
 have loop : ∀ N', N ≤ N' → yI Q N (zu nm) 2 2 a es c es.length 0 (.ag [.lit (.int .i64 4), .lit (.string nm), .lit (.string ot), .lit (.int .i64 n0), t0, t1, r0, r1, .sl a 9 es c]) 0 (bytes []) (bytes []) 0 0 none [] 0 0 none [] 0 none [] 0 [.lit (.int .i64 0), .lit (.int .i64 0)] 2 N' := fun N' hN' => by
  refine up hes hlen (fun i xs => ∀ N', N ≤ N' → (∀ j x, j < i → l[j]? = some x → x.kd = zu nm) → yI Q N (zu nm) 2 2 a es c es.length i (.ag [.lit (.int .i64 4), .lit (.string nm), .lit (.string ot), .lit (.int .i64 n0), t0, t1, r0, r1, .sl a 9 es c]) 0 (bytes []) (bytes []) 0 0 none [] 0 0 none [] 0 none [] 0 (zC1 l i) 2 N') ?_ ?_ N' hN' (fun j x h => absurd h (by omega))
  ·intro i hlt hi N' hN' hk
   have hall : ∀ x ∈ l, x.kd = zu nm := fun x hx => by
    obtain ⟨j, hj⟩ := List.mem_iff_getElem?.1 hx
    exact hk j x (by have := (List.getElem?_eq_some_iff.1 hj).1; omega) hj
   have hin : i = l.length := by omega
   have hr : ∀ j, 0 ≤ (l.getD j tm0).no ∧ (l.getD j tm0).no ≤ 10006 := fun j => by
    by_cases hj : j < l.length
    ·have hm := zJ hj
     refine zKS (hparts _ hm) ?_
     rw [hall _ hm]; exact zG8 nm
    ·rw [zA0 (by omega)]; decide
   have hq : zNL nm l = (zJx (zDR nm) (zZ nm (l.getD 0 tm0).no (l.getD 1 tm0).no).1, true) := by
    unfold zNL
    rw [if_pos (List.all_eq_true.2 fun x hx => by rw [hall x hx]; exact beq_self_eq_true _)]
   rw [hq] at hQ
   refine u9 _ _ _ _ _ _ _ _ _ _ _ _ _ _ _ _ _ _ _ _ _ _ _ _ _ _ _ _ _ ?_
   rw [hlt, hin, zIk hl2]
   refine ⟨_, rfl, ⟨⟨by omega, by omega, by simp⟩, by simp, _, rfl, ⟨by omega, by omega, by simp⟩, by simp, _, rfl, fun N2 hN2 => zDa _ _ _ N2 _ fun N3 hN3 _ => ⟨_, rfl, fun N4 hN4 => zHW _ N4 _ fun N5 hN5 _ N6 hN6 => zKo _ _ N6 _ fun x N7 hN7 hx _ _ N8 hN8 => ?_⟩⟩⟩
   rw [zJj hop (hr 0) (hr 1)]
   rw [← zLN hop] at hx
   exact hQ _ _ (by omega) hx
  ·intro i x xs hat hxs ih2 N' hN' hk
   have hb := hat.b
   have hx := hat.r
   have hgx : l.getD i tm0 = x := by rw [List.getD_eq_getElem?_getD, hat.g]; rfl
   refine u9 _ _ _ _ _ _ _ _ _ _ _ _ _ _ _ _ _ _ _ _ _ _ _ _ _ _ _ _ _ ?_
   rw [hat.lt, Int.toNat_natCast, hat.w]
   cases x with
   | mk pk pn po pm pt pr pl =>
   obtain ⟨u0, u1, v0, v1, a2, es2, c2, heq, hh2, hlen2, hes2⟩ := Tm.is_mk.1 hx
   rw [heq]
   refine ⟨⟨by omega, by omega⟩, _, rfl, Br.bne (fun hne N1 hN1 => ?_) fun he => ⟨_, rfl, ⟨by omega, by omega, by simp only [zC1, List.length_cons, List.length_nil]; omega⟩, by simp only [zC1, List.length_cons, List.length_nil]; omega, ?_⟩⟩
   ·have hq : zNL nm l = (tm0, false) := by
     unfold zNL
     rw [if_neg fun hc => hne (by have := List.all_eq_true.1 hc _ hat.m; exact (by simpa using this : (Tm.mk pk pn po pm pt pr pl).kd = zu nm))]
    rw [hq] at hQ
    exact hQ _ _ (by omega) zFn
   ·rw [Nat.zero_add]
    have hns := zIR (l := l) (i := i) (by omega)
    rw [hgx] at hns
    simp only [Tm.no] at hns
    rw [hns]
    refine ih2 _ hN' fun j y hj hy => ?_
    by_cases hji : j < i
    ·exact hk j y hji hy
    ·have : j = i := by omega
     subst this
     rw [hat.g] at hy
     rw [← Option.some.inj hy]; exact he
 refine zCm N _ Q fun _ => ⟨_, rfl, fun N1 hN1 => zEL nm N1 _ fun N2 hN2 _ => Br.of (fun h => ⟨_, _, _, rfl, ?_⟩) fun h => ⟨_, _, _, rfl, ?_⟩⟩
 ·have := loop N2 (by omega)
  rw [show zu nm = 3 by unfold zu; rw [if_pos h]] at this
  exact this
 ·have := loop N2 (by omega)
  rw [show zu nm = 2 by unfold zu; rw [if_neg (by rw [h]; decide)]] at this
  exact this
theorem zBt {k n m : Int} {c1 c2 c4 c5 c6 c7 c8 : D} : vn 144 [.dg 9 (.ag [.lit (.int .i64 k), c1, c2, .lit (.int .i64 n), c4, c5, c6, c7, c8]), .int .i64 m] (!(k == 11 && m == 1)) := fun N Q hQ =>
 rF N _ m Q fun _ => ⟨_, rfl, Br.bne (fun h N1 hN1 => Qb (hQ _ hN1) (by simp [h])) fun h N1 hN1 => Qb (hQ _ hN1) (by rw [h]; simp [bne])⟩
theorem zKc : ∀ (t : Tm) (d : D), t.Is d → ∀ m : Int, LvIn m t.dp → vn 73 [.dg 9 d, .int .i64 m, .fn 144 []] (t.made m) := by
 refine Tm.ind fun k nm ot n ty re l ih d hd m hm N Q hQ => ?_
 obtain ⟨t0, t1, r0, r1, a, es, c, rfl, hh, hlen, hes⟩ := Tm.is_mk.1 hd
 have hl := hes.len
 refine zAB N _ m Q fun _ N1 hN1 => zBt N1 _ fun N2 hN2 _ => Br.not (fun hv N3 hN3 => Qb (hQ _ (by omega)) (by simp only [Tm.made, hv, Bool.false_and])) fun hv => ⟨_, _, _, rfl, ?_⟩
 refine up hes hlen (fun i xs => ∀ (N' : Nat), N ≤ N' → (∀ N'', N' ≤ N'' → Q (vK xs (yS k m)) N'') → xO Q N m a es c es.length i (.ag [.lit (.int .i64 k), .lit (.string nm), .lit (.string ot), .lit (.int .i64 n), t0, t1, r0, r1, .sl a 9 es c]) N') ?_ ?_ N2 (by omega) fun N'' h => Qb (hQ N'' (by omega)) (by simp only [Tm.made, hv, Bool.true_and])
 ·intro i hlt _ N' hN' hQ'
  refine tC _ _ _ _ _ _ _ _ _ _ ?_
  repeat' first|with_reducible intro _|simp only[hlt,Y1,Y2,Y3,Y4]|(with_reducible first|refine X1 ?_ ?_|refine X2 ?_ ?_|refine X3 ?_ ?_|refine X4 ?_ ?_|refine X5 ?_ ?_|refine X6 ?_ ?_|refine X7 ?_ ?_|refine X8 ?_ ?_|refine X9 ?_ ?_)|refine⟨_,_,_,rfl,?_⟩|refine⟨_,rfl,?_⟩|((with_reducible refine And.intro ?_ ?_);·first|omega|trivial|(show _=_;rfl)|((with_reducible refine And.intro ?_ ?_)<;>first|omega|trivial|(show _=_;rfl)))|fail
  exact Qb (hQ' _ (by omega)) (by simp [vK])
 ·intro i x xs hat _ ih2 N' hN' hQ'
  have hb2 := hat.b
  refine tC _ _ _ _ _ _ _ _ _ _ ?_
  repeat' first|with_reducible intro _|simp only[hat.lt, hat.w, Int.toNat_natCast,Y1,Y2,Y3,Y4]|(with_reducible first|refine X1 ?_ ?_|refine X2 ?_ ?_|refine X3 ?_ ?_|refine X4 ?_ ?_|refine X5 ?_ ?_|refine X6 ?_ ?_|refine X7 ?_ ?_|refine X8 ?_ ?_|refine X9 ?_ ?_)|refine⟨_,_,_,rfl,?_⟩|refine⟨_,rfl,?_⟩|((with_reducible refine And.intro ?_ ?_);·first|omega|trivial|(show _=_;rfl)|((with_reducible refine And.intro ?_ ?_)<;>first|omega|trivial|(show _=_;rfl)))|refine (zAJ hm.b) _ _ ?_|refine (ih x hat.m _ hat.r _ (hm.next (dp_mem hat.m))) _ _ ?_|fail
  ·refine Qb (hQ' _ (by omega)) ?_; simp [vK, *]
  ·exact ih2 _ (by omega) fun N'' h => Qb (hQ' N'' (by omega)) (by simp [vK, *])
theorem zEU {t : Tm} {d : D} (hd : t.Is d) (hc : t.cnt ≤ 1073741824) {m : Int} (hm : LvIn m t.dp) : vn 108 [.dg 9 d, .int .i64 m] (pD t m && t.made m) := fun N Q hQ =>
 qz N _ m Q fun _ N1 hN1 => ta t d hd hc m N1 _ fun N2 hN2 _ => Br.of (fun hv N3 hN3 => zKc t d hd m hm N3 _ fun N4 hN4 _ N5 hN5 => Qb (hQ _ (by omega)) (by rw [hv]; simp)) fun hv N3 hN3 => Qb (hQ _ (by omega)) (by rw [hv]; simp)
theorem w7 {e : Tm} {d : D} (he : e.Is d) (hok : e.ok = true) (hc : e.cnt ≤ 1073741824) : vn 76 [.dg 9 d] e.res := fun N Q hQ => by
 cases e with
 | mk k nm ot n0 ty re l =>
 have hI := ue _ d he hc
 rw [hok] at hI
 obtain ⟨t0, t1, r0, r1, a, es, c, rfl, hh, hlen, hes⟩ := Tm.is_mk.1 he
 have hl := hes.len
 refine zCO N _ Q fun _ => ⟨_, rfl, ?_⟩
 refine Br.beq (fun h2 N1 hN1 => hI N1 _ fun N2 hN2 _ N3 hN3 => Qb (hQ _ (by omega)) (by simp [Tm.res, zIC, Tm.kd, h2])) fun h2 => ?_
 refine Br.beq (fun h3 N1 hN1 => hI N1 _ fun N2 hN2 _ N3 hN3 => Qb (hQ _ (by omega)) (by simp [Tm.res, zIC, Tm.kd, h3])) fun h3 => ?_
 refine Br.beq (fun h6 N1 hN1 => hI N1 _ fun N2 hN2 _ N3 hN3 => Qb (hQ _ (by omega)) (by simp [Tm.res, zIC, Tm.kd, h6])) fun h6 => ?_
 refine Br.beq (fun h9 N1 hN1 => hI N1 _ fun N2 hN2 _ N3 hN3 => Qb (hQ _ (by omega)) (by simp [Tm.res, zIC, Tm.kd, h9])) fun h9 => ?_
 refine Br.beq (fun h10 N1 hN1 => ?_) fun h10 N1 hN1 => Qb (hQ _ hN1) (by simp [Tm.res, zIC, Tm.kd, h2, h3, h6, h9, h10])
 subst h10
 have hl1 := (xn hok).1 (by omega)
 refine hI N1 _ fun N2 hN2 _ => Br.of (fun _ => ?_) fun h => absurd h (by decide)
 cases l with
 | nil => simp at hl1
 | cons p ls =>
 cases ls with
 | cons _ _ => simp at hl1
 | nil =>
 have hdc := Tm.dp_cnt p
 have hpo : p.ok = true := by
  simp only [Tm.ok, uZ, Bool.and_eq_true] at hok
  exact hok.1.1
 simp only [Tm.cnt, zr] at hc
 refine ⟨_, _, _, rfl, ⟨by omega, by omega⟩, fun N3 hN3 => ?_⟩
 refine zEU (yD hes (j := 0) (by simp)) (by simp only [List.getD_cons_zero]; omega) (m := 1) (by unfold LvIn; simp only [List.getD_cons_zero]; omega) N3 _ fun N4 hN4 _ N5 hN5 => Qb (hQ _ (by omega)) ?_
 simp only [List.getD_cons_zero, Tm.res, zIC, Tm.kd, Tm.lev, tn, yS, Tm.pt, pD, hpo]
 simp [inB]
theorem zEG {e : Tm} {d : D} (he : e.Is d) (hok : e.ok = true) (hc : e.cnt ≤ 1073741824) : zNn 109 [.dg 9 d] (if e.kd = 10 ∧ e.res = true then (e.pt 0, true) else (tm0, false)) := fun N Q hQ => by
 cases e with
 | mk k nm ot n0 ty re l =>
 have hR := w7 he hok hc
 have hG := Tm.G_cnt _ hc
 obtain ⟨t0, t1, r0, r1, a, es, c, rfl, hh, hlen, hes⟩ := Tm.is_mk.1 he
 have hl := hes.len
 refine zCd N _ Q fun _ => ⟨_, rfl, Br.bne (fun h10 N1 hN1 => ?_) fun h10 N2 hN2 => hR N2 _ fun N3 hN3 _ => Br.not (fun hv N4 hN4 => ?_) fun hv => ?_⟩
 ·rw [if_neg (fun h => h10 h.1)] at hQ
  exact hQ _ _ hN1 zFn
 ·rw [if_neg (fun h => by rw [hv] at h; exact absurd h.2 (by decide))] at hQ
  exact hQ _ _ (by omega) zFn
 ·rw [if_pos ⟨h10, hv⟩] at hQ
  have hl1 := (xn hok).1 (by omega)
  refine ⟨_, _, _, rfl, ⟨by omega, by omega⟩, fun N5 hN5 => ?_⟩
  exact zGU sR (yD hes (j := 0) (by omega)) (zq hG.2.2.2 (zJ (by omega))) (N0 := N) (by omega) (fun d N => Q d true N) fun d' N7 hN7 hd' _ => hQ _ _ (by omega) hd'
theorem zML {e : Tm} {d : D} (he : e.Is d) (hok : e.ok = true) (hc : e.cnt ≤ 1073741824) : zNn 113 [.dg 9 d] (if e.kd = 2 ∨ e.kd = 3 then (Tm.nod 10 [e], true) else (tm0, false)) := fun N Q hQ => by
 cases e with
 | mk k nm ot n0 ty re l =>
 have hI := ue _ d he hc
 rw [hok] at hI
 have hG := Tm.G_cnt _ hc
 have he0 := he
 obtain ⟨t0, t1, r0, r1, a, es, c, rfl, hh, hlen, hes⟩ := Tm.is_mk.1 he
 have hl := hes.len
 have fin : (Tm.mk k nm ot n0 ty re l).kd = 2 ∨ (Tm.mk k nm ot n0 ty re l).kd = 3 → ∀ N2, N ≤ N2 → ∀ N3, N2 ≤ N3 → ACalls prog 40 [.pk, .int .i64, .str, .str, .int .i64, .dc, .dc, .dc, .dc, .row 34 9] [.dg 9 (.ag [.lit (.int .i64 k), .lit (.string nm), .lit (.string ot), .lit (.int .i64 n0), t0, t1, r0, r1, .sl a 9 es c])] N3
   (fun n s s_1 n_1 x x_1 x_2 x_3 es c N4 => N3 ≤ N4 → Bel N4 (D.ag es) → (es.length = es.length ∧ c = c) ∧ ∀ a N5, N4 ≤ N5 → Fresh N N5 a [D.ag es] → (1 = ([D.ag [D.lit (.int .i64 n), D.lit (.string s), D.lit (.string s_1), D.lit (.int .i64 n_1), x, x_1, x_2, x_3, D.sl a 9 es c]]).length ∧ 1 = 1) ∧
    ∀ a_1 N6, N5 ≤ N6 → Fresh N N6 a_1 [D.ag [D.ag [D.lit (.int .i64 n), D.lit (.string s), D.lit (.string s_1), D.lit (.int .i64 n_1), x, x_1, x_2, x_3, D.sl a 9 es c]]] → ∀ N7, N6 ≤ N7 → ACalls prog 152 [.ag 9] [.int .i64 10, .sv a_1 9 [D.ag [D.lit (.int .i64 n), D.lit (.string s), D.lit (.string s_1), D.lit (.int .i64 n_1), x, x_1, x_2, x_3, D.sl a 9 es c]] 1] N7
      (fun x_4 N8 => N7 ≤ N8 → Bel N8 x_4 → ∀ N9, N8 ≤ N9 → Q x_4 true N9)) := fun hk N2 hN2 N3 hN3 => by
  rw [if_pos hk] at hQ
  refine sR _ _ he0 hG N3 _ ?_
  intro x4 x5 x6 x7 es' c' N4 hN4 hh' hes' ho' _ _
  have hl' := hes'.len
  have hgl := hG.2.2.1
  refine ⟨⟨rfl, rfl⟩, fun a1 N5 hN5 _ => ⟨⟨rfl, rfl⟩, fun a2 N6 hN6 _ N7 hN7 => zEx N7 10 a2 _ 1 _ fun _ N8 hN8 _ _ N9 hN9 => hQ _ _ (by omega) ?_⟩⟩
  exact Tm.is_mk.2 ⟨_, _, _, _, _, _, _, rfl, ⟨by decide, by decide, qU _, qU _⟩, by simp, _, [], rfl, Tm.is_mk.2 ⟨_, _, _, _, _, _, _, rfl, hh', by omega, hes'⟩, rfl⟩
 refine zE8 N _ Q fun _ => ⟨_, rfl, Br.bne (fun h2 => ⟨_, rfl, Br.bne (fun h3 N1 hN1 => ?_) fun h3 N2 hN2 => hI N2 _ fun N3 hN3 _ => Br.not (fun h => absurd h (by decide)) fun _ => fin (.inr h3) N3 (by omega)⟩) fun h2 N2 hN2 => hI N2 _ fun N3 hN3 _ => Br.not (fun h => absurd h (by decide)) fun _ => fin (.inl h2) N3 (by omega)⟩
 rw [if_neg (fun h => h.elim h2 h3)] at hQ
 exact hQ _ _ hN1 zFn
theorem zA4 {e b : Tm} {d db : D} (he : e.Is d) (hb : b.Is db) (x : ByteArray) (h1 : e.Z) (h2 : b.Z) : zNf 112 [.dg 9 d, .str x, .dg 9 db] (e.sb x b) := zDi e.dp e d x b db he hb (Nat.le_refl _) h1 h2
theorem zMM {n0 : Int} {nm ot : ByteArray} {ty re : Ty} {l : List Tm} : (Tm.mk 4 nm ot n0 ty re l).opr l = if (zNL nm l).2 = true then ((zNL nm l).1, 1) else (Tm.mk 4 nm ot n0 ty re l, 0) := by
 unfold Tm.opr zNL
 by_cases hc : (l.all fun x => x.kd == zu nm) = true
 ·rw [if_pos hc, if_pos (show (l.all fun x => x.kd == zu (Tm.mk 4 nm ot n0 ty re l).nm) = true from hc), if_pos rfl]; rfl
 ·rw [if_neg hc, if_neg (show ¬ (l.all fun x => x.kd == zu (Tm.mk 4 nm ot n0 ty re l).nm) = true from hc), if_neg (by decide)]
/-- the rule of a form whose parts are results -/
theorem zNx {k n0 : Int} {nm ot : ByteArray} {ty re : Ty} {l : List Tm} {d : D} {f : Nat} (hd : (Tm.mk k nm ot n0 ty re l).Is d) (hF : (Tm.mk k nm ot n0 ty re l).F (f + 1)) (hres : k = 12 → (l.getD 0 tm0).res = true) :
  zJY 80 [.dg 9 d] (Tm.mk k nm ot n0 ty re l).apl := fun N Q hQ => by
 have hd0 := hd
 obtain ⟨t0, t1, r0, r1, a, es, c, rfl, hh, hlen, hes⟩ := Tm.is_mk.1 hd
 have hl := hes.len
 have hok := hF.ok
 have oper : k = 4 → ∀ N1, N ≤ N1 → ACalls prog 111 [.ag 9, .bool] [.dg 9 (.ag [.lit (.int .i64 k), .lit (.string nm), .lit (.string ot), .lit (.int .i64 n0), t0, t1, r0, r1, .sl a 9 es c])] N1 (fun x b N2 => N1 ≤ N2 → Bel N2 x → Br b (∀ N3, N2 ≤ N3 → Q x 1 N3) (∀ N4, N2 ≤ N4 → Q (.ag [.lit (.int .i64 k), .lit (.string nm), .lit (.string ot), .lit (.int .i64 n0), t0, t1, r0, r1, .sl a 9 es c]) 0 N4)) := fun h4 N1 hN1 => by
  subst h4
  simp only [Tm.apl] at hQ
  rw [if_pos trivial, zMM] at hQ
  refine zLJ hd0 hok N1 _ fun dx N2 hN2 hx _ _ => Br.of (fun hv N3 hN3 => ?_) fun hv N4 hN4 => ?_
  ·rw [if_pos hv] at hQ; exact hQ _ _ (by omega) hx
  ·rw [if_neg (by rw [hv]; decide)] at hQ; exact hQ _ _ (by omega) hd0
 refine zHA N _ Q fun _ => ⟨_, _, _, rfl, Br.dec (fun hpos => ⟨_, _, _, rfl, ⟨by omega, by omega⟩, _, rfl, ?_⟩) fun hneg => ⟨_, rfl, ?_⟩⟩
 ·have hl1 : 0 < l.length := by omega
  have hp0 := yD hes hl1
  have hFp := hF.mem _ (zJ hl1)
  have hcp := hFp.c
  refine Br.beq (fun h4 => oper h4) fun h4 => ?_
  simp only [Tm.apl] at hQ
  rw [if_neg h4] at hQ
  generalize hpp : l.getD 0 tm0 = p at hp0 hFp hQ hres hcp
  have hp1 := hp0
  have hno := fun h => zHq hFp.ok h
  have hCP := zEG hp1 hFp.ok (by omega)
  have hLO := zML hp1 hFp.ok (by omega)
  cases p with
  | mk pk pn po pm pt pr pl =>
  obtain ⟨u0, u1, v0, v1, a2, es2, c2, heq, hh2, hlen2, hes2⟩ := Tm.is_mk.1 hp0
  have hl3 := hes2.len
  simp only [Tm.kd, Tm.no] at hno
  rw [heq] at hp1 hCP hLO ⊢
  have one : (pk = 6 ∨ pk = 9) → pl.length = 1 := fun h => (xn hFp.ok).1 (by omega)
  have hF1 : pl.length = 1 → (pl.getD 0 tm0).F f := fun h => ((hFp.up (g := f + 1) (by omega)).mem _ (zJ (l := pl) (i := 0) (by omega)))
  refine Br.beq (fun h5 => ⟨_, rfl, Br.beq (fun h3 => ?_) fun h3 N9 hN9 => ?_⟩) fun h5 => Br.beq (fun h7 => ⟨_, rfl, Br.beq (fun h6 => ?_) fun h6 => Br.beq (fun h9 => ?_) fun h9 N18 hN18 => ?_⟩) fun h7 => Br.beq (fun h8 => ?_) fun h8 => Br.beq (fun h12 N22 hN22 => ?_) fun h12 => Br.beq (fun h13 N26 hN26 => ?_) fun h13 N30 hN30 => ?_
  ·rw [if_pos h5, if_pos (show (Tm.mk pk pn po pm pt pr pl).kd = 3 from h3)] at hQ
   have hl5 := (xn hok).2.2.1 h5
   have hn := hno h3
   have hw : IntKind.i64.wrap (2 - pm) = 2 - pm := i64_in _ (by omega)
   refine ⟨_, _, _, rfl, _, rfl, ?_⟩
   rw [hw]
   refine ⟨⟨by omega, by omega⟩, fun N6 hN6 => ?_⟩
   exact zGU sR (yD hes (j := (2 - pm).toNat) (by omega)) (zq hF.z.g.2.2.2 (zJ (by omega))) (N0 := N) (by omega) (fun d N => Q d 2 N) fun d' N7 hN7 hd' _ => hQ _ _ (by omega) hd'
  ·rw [if_pos h5, if_neg (show ¬ (Tm.mk pk pn po pm pt pr pl).kd = 3 from h3)] at hQ
   exact hQ _ _ (by omega) hd0
  ·have hl7 := (xn hok).2.1 (.inl h7)
   have h1 := one (.inl h6)
   rw [if_neg h5, if_pos h7, if_pos (show (Tm.mk pk pn po pm pt pr pl).kd = 6 from h6)] at hQ
   refine ⟨_, _, _, rfl, ⟨by omega, by omega⟩, _, rfl, _, _, _, rfl, ⟨by omega, by omega⟩, fun N6 hN6 => ?_⟩
   exact zA4 (yD hes2 (j := 0) (by omega)) (yD hes (j := 1) (by omega)) pn (hF1 h1).z (hF.mem _ (zJ (i := 1) (by omega))).z N6 _ fun dx N7 hN7 hx _ _ _ N8 hN8 => hQ _ _ (by omega) hx
  ·have hl7 := (xn hok).2.1 (.inl h7)
   have h1 := one (.inr h9)
   rw [if_neg h5, if_pos h7, if_neg (show ¬ (Tm.mk pk pn po pm pt pr pl).kd = 6 from h6), if_pos (show (Tm.mk pk pn po pm pt pr pl).kd = 9 from h9)] at hQ
   refine ⟨_, _, _, rfl, ⟨by omega, by omega⟩, _, rfl, _, rfl, _, _, _, rfl, ⟨by omega, by omega⟩, fun N9 hN9 => ?_⟩
   refine zA4 (yD hes2 (j := 0) (by omega)) hp1 pn (hF1 h1).z hFp.z N9 _ fun dx N10 hN10 hx _ _ _ N11 hN11 => ?_
   exact zA4 hx (yD hes (j := 1) (by omega)) po (zQT (hF1 h1) hFp) (hF.mem _ (zJ (i := 1) (by omega))).z N11 _ fun dy N12 hN12 hy _ _ _ N13 hN13 => hQ _ _ (by omega) hy
  ·rw [if_neg h5, if_pos h7, if_neg (show ¬ (Tm.mk pk pn po pm pt pr pl).kd = 6 from h6), if_neg (show ¬ (Tm.mk pk pn po pm pt pr pl).kd = 9 from h9)] at hQ
   exact hQ _ _ (by omega) hd0
  ·have hl8 := (xn hok).2.1 (.inr h8)
   rw [if_neg h5, if_neg h7, if_pos h8] at hQ
   refine ⟨_, _, _, rfl, ⟨by omega, by omega⟩, _, rfl, fun N6 hN6 => ?_⟩
   exact zA4 (yD hes (j := 1) (by omega)) hp1 nm (hF.mem _ (zJ (i := 1) (by omega))).z hFp.z N6 _ fun dx N7 hN7 hx _ _ _ N8 hN8 => hQ _ _ (by omega) hx
  ·rw [if_neg h5, if_neg h7, if_neg h8, if_pos h12] at hQ
   have hr := hres h12
   refine hCP N22 _ fun dx N23 hN23 hx _ _ => Br.of (fun hv N24 hN24 => ?_) fun hv N25 hN25 => ?_
   ·by_cases h10 : (Tm.mk pk pn po pm pt pr pl).kd = 10
    ·rw [if_pos ⟨h10, hr⟩] at hx
     rw [if_pos h10] at hQ
     exact hQ _ _ (by omega) hx
    ·rw [if_neg (fun h => h10 h.1)] at hv
     first | exact absurd (show true = false from hv) (by decide) | exact absurd (show false = true from hv) (by decide)
   ·by_cases h10 : (Tm.mk pk pn po pm pt pr pl).kd = 10
    ·rw [if_pos ⟨h10, hr⟩] at hv
     first | exact absurd (show true = false from hv) (by decide) | exact absurd (show false = true from hv) (by decide)
    ·rw [if_neg h10] at hQ
     exact hQ _ _ (by omega) hd0
  ·rw [if_neg h5, if_neg h7, if_neg h8, if_neg h12, if_pos h13] at hQ
   refine hLO N26 _ fun dx N27 hN27 hx _ _ => Br.of (fun hv N28 hN28 => ?_) fun hv N29 hN29 => ?_
   ·by_cases h2 : (Tm.mk pk pn po pm pt pr pl).kd = 2 ∨ (Tm.mk pk pn po pm pt pr pl).kd = 3
    ·rw [if_pos h2] at hx hQ
     exact hQ _ _ (by omega) hx
    ·rw [if_neg h2] at hv
     first | exact absurd (show true = false from hv) (by decide) | exact absurd (show false = true from hv) (by decide)
   ·by_cases h2 : (Tm.mk pk pn po pm pt pr pl).kd = 2 ∨ (Tm.mk pk pn po pm pt pr pl).kd = 3
    ·rw [if_pos h2] at hv
     first | exact absurd (show true = false from hv) (by decide) | exact absurd (show false = true from hv) (by decide)
    ·rw [if_neg h2] at hQ
     exact hQ _ _ (by omega) hd0
  ·rw [if_neg h5, if_neg h7, if_neg h8, if_neg h12, if_neg h13] at hQ
   exact hQ _ _ (by omega) hd0
 ·have hl0 : l.length = 0 := by omega
  obtain ⟨a1, a2, a3, _, _⟩ := xn hok
  refine Br.beq (fun h4 => oper h4) fun h4 => Br.beq (fun h5 => by have := a3 h5; omega) fun h5 => Br.beq (fun h7 => by have := a2 (.inl h7); omega) fun h7 => Br.beq (fun h8 => by have := a2 (.inr h8); omega) fun h8 => Br.beq (fun h12 => by have := a1 (by omega); omega) fun h12 => Br.beq (fun h13 => by have := a1 (by omega); omega) fun h13 N30 hN30 => ?_
  simp only [Tm.apl] at hQ
  rw [if_neg h4, if_neg h5, if_neg h7, if_neg h8, if_neg h12, if_neg h13] at hQ
  exact hQ _ _ (by omega) hd0
theorem zJt {k n0 : Int} {nm ot : ByteArray} {t0 t1 r0 r1 : D} {a : Option Addr} {es : List D} {c : Nat} : zAR 79 [.dg 9 (.ag [.lit (.int .i64 k), .lit (.string nm), .lit (.string ot), .lit (.int .i64 n0), t0, t1, r0, r1, .sl a 9 es c])] (rh k es.length : Nat) := fun N Q hQ => by
 refine zB4 N _ Q fun _ => ⟨_, rfl, Br.beq (fun h4 => ⟨_, _, _, rfl, fun N1 hN1 => Qi (hQ _ hN1) (by simp [rh, h4])⟩) fun h4 => Br.beq (fun h7 => ⟨_, _, _, rfl, fun N1 hN1 => Qi (hQ _ hN1) (by simp [rh, h7])⟩) fun h7 => ?_⟩
 refine Br.beq (fun h5 N1 hN1 => Qi (hQ _ hN1) (by simp [rh, h5])) fun h5 => Br.beq (fun h8 N1 hN1 => Qi (hQ _ hN1) (by simp [rh, h8])) fun h8 => Br.beq (fun h12 N1 hN1 => Qi (hQ _ hN1) (by simp [rh, h12])) fun h12 => Br.beq (fun h13 N1 hN1 => Qi (hQ _ hN1) (by simp [rh, h13])) fun h13 N1 hN1 => Qi (hQ _ hN1) (by simp [rh, h4, h7, h5, h8, h12, h13])
/-- a node with one other part -/
theorem zNZ {t y : Tm} {d dy : D} (h : t.Is d) (hG : t.G) (hy : y.Is dy) (h1 : t.as.length = 1) {N0 N : Nat} {a1 : Option Addr} (hb : u7 N [a1]) (Q' : D → Nat → Prop) (hq : ∀ d' N', N ≤ N' → (t.wth 0 y).Is d' → Q' d' N') :
  ACalls prog 78 [.pk, .int .i64, .str, .str, .int .i64, .dc, .dc, .dc, .dc, .bk 1] [.dg 9 d, .sv a1 9 [dy] 1] N (fun n s s_1 n_1 x_1 x_2 x_3 x_4 x_5 N7 => N ≤ N7 → x_5 = D.sl a1 9 [dy] 1 ∧ Off [a1] x_1 ∧ Off [a1] x_2 ∧ Off [a1] x_3 ∧ Off [a1] x_4 ∧ (1 = ([dy]).length ∧ 1 = 1) ∧ (1 = ([dy]).length ∧ 1 = 1) ∧ (1 = ([dy]).length ∧ 1 = 1) ∧
   ∀ a_2 N8, N7 ≤ N8 → Fresh N0 N8 a_2 [D.ag [dy], x_1, x_2, x_3, x_4] → ∀ N9, N8 ≤ N9 → Q' (D.ag [D.lit (.int .i64 n), D.lit (.string s), D.lit (.string s_1), D.lit (.int .i64 n_1), x_1, x_2, x_3, x_4, D.sl a_2 9 [dy] 1]) N9) := by
 cases t with
 | mk k nm ot n0 ty re l =>
 obtain ⟨t0, t1, r0, r1, a, es, c, rfl, hh, hlen, hes⟩ := Tm.is_mk.1 h
 simp only [Tm.as] at h1
 obtain ⟨g1, g2, g3, g4⟩ := hG
 refine zHS hh g1 g2 a1 [dy] 1 N _ fun x4 x5 x6 x7 N5 hN5 hh5 ho5 _ => ⟨rfl, ?_⟩
 have off : ∀ y ∈ [x4, x5, x6, x7], Off [a1] y := fun y hy a' ha' ad had hc => by
  have h1 := hb a' ha' ad had
  have h2 := ho5.lo _ (zD.2 ⟨y, hy, hc⟩)
  omega
 refine ⟨off x4 (by simp), off x5 (by simp), off x6 (by simp), off x7 (by simp), ⟨rfl, rfl⟩, ⟨rfl, rfl⟩, ⟨rfl, rfl⟩, fun a2 N8 hN8 _ N9 hN9 => hq _ _ (by omega) ?_⟩
 have hset : l.set 0 y = [y] := by
  cases l with
  | nil => simp at h1
  | cons p ls => cases ls with
    | nil => rfl
    | cons _ _ => simp at h1
 simp only [Tm.wth]
 rw [hset]
 exact Tm.is_mk.2 ⟨_, _, _, _, _, _, _, rfl, hh5, by simp, dy, [], rfl, hy, rfl⟩
/-- the first splice of level 1, by steps -/
theorem zGl {f : Nat} (hS : zNa 41 f) : ∀ (t : Tm) (d : D), t.Is d → t.F (f + 1) → ∀ m : Int, LvIn m t.dp → zNU 77 [.dg 9 d, .int .i64 m, .fn 41 []] (t.cod (Tm.stp f) m) := by
 refine Tm.ind fun k nm ot n0 ty re l ih d hd hF m hm N Q hQ => ?_
 have hd0 := hd
 obtain ⟨t0, t1, r0, r1, a, es, c, rfl, hh, hlen, hes⟩ := Tm.is_mk.1 hd
 have hl := hes.len
 have loop : ¬ (k = 11 ∧ m = 1) → yH Q N m a es c es.length 0 (.ag [.lit (.int .i64 k), .lit (.string nm), .lit (.string ot), .lit (.int .i64 n0), t0, t1, r0, r1, .sl a 9 es c]) 0 (bytes []) (bytes []) 0 0 none [] 0 0 none [] 0 none [] 0 N := fun hne => by
  simp only [Tm.cod] at hQ
  rw [if_neg hne] at hQ
  refine up hes hlen (fun i xs => ∀ N', N ≤ N' → (match zk (Tm.stp f) xs (yS k m) with | none => zk (Tm.stp f) l (yS k m) = none | some (l', r) => zk (Tm.stp f) l (yS k m) = some (l.take i ++ l', r)) →
   yH Q N m a es c es.length i (.ag [.lit (.int .i64 k), .lit (.string nm), .lit (.string ot), .lit (.int .i64 n0), t0, t1, r0, r1, .sl a 9 es c]) 0 (bytes []) (bytes []) 0 0 none [] 0 0 none [] 0 none [] 0 N') ?_ ?_ N (Nat.le_refl _) ?_
  ·intro i hlt hi N' hN' he
   simp only [zk] at he
   rw [he] at hQ
   refine u6 _ _ _ _ _ _ _ _ _ _ _ _ _ _ _ _ _ _ _ _ _ _ _ _ _ ?_
   rw [hlt]
   exact fun N2 hN2 => hQ _ _ (by omega) hd0
  ·intro i x xs hat hxs ih2 N' hN' he
   have hb := hat.b
   have hil : i < l.length := (List.getElem?_eq_some_iff.1 hat.g).1
   refine u6 _ _ _ _ _ _ _ _ _ _ _ _ _ _ _ _ _ _ _ _ _ _ _ _ _ ?_
   rw [hat.lt, hat.w]
   refine ⟨⟨by omega, by omega⟩, fun N1 hN1 => zAJ hm.b N1 _ fun N2 hN2 _ N3 hN3 => ?_⟩
   have hr := hat.r
   rw [← Int.toNat_natCast i] at hr
   refine ih x hat.m _ hr ((hF.mem x hat.m).up (by omega)) _ (hm.next (dp_mem hat.m)) N3 _ fun dx N4 hN4 hx _ _ => Br.of (fun hv N5 hN5 => ?_) fun hv => ?_
   ·simp only [zk] at he
    rw [if_pos hv] at he
    simp only at he
    rw [he] at hQ
    refine zOF sR hd0 hF.z.g hx hil (N0 := N) (fun d N => Q d (x.cod (Tm.stp f) (yS k m)).2.1 true N) fun d' N6 hN6 hd' => hQ _ _ (by omega) ?_
    have : l.take i ++ (x.cod (Tm.stp f) (yS k m)).1 :: xs = l.set i (x.cod (Tm.stp f) (yS k m)).1 := by
     rw [List.set_eq_take_append_cons_drop, if_pos hil, hxs]
    simp only
    rw [this]
    exact hd'
   ·refine ih2 _ (by omega) ?_
    simp only [zk] at he
    rw [if_neg (by rw [hv]; decide)] at he
    cases hc : zk (Tm.stp f) xs (yS k m) with
    | none => rw [hc] at he; exact he
    | some p =>
      obtain ⟨l', r⟩ := p
      rw [hc] at he
      simp only at he ⊢
      rw [he, xg hat.g, List.append_assoc]; rfl
  ·cases hc : zk (Tm.stp f) l (yS k m) with
   | none => rfl
   | some p => obtain ⟨l', r⟩ := p; simp
 refine zAb N _ m Q fun _ => ⟨_, rfl, Br.beq (fun h1 => Br.beq (fun h2 => ?_) fun h2 => ⟨_, _, _, rfl, loop fun h => h2 h.2⟩) fun h1 => ⟨_, _, _, rfl, loop fun h => h1 h.1⟩⟩
 have hl1 := (xn hF.ok).1 (by omega)
 have hi0 : 0 < l.length := by omega
 have hm0 := zJ hi0
 have hF0 := hF.mem _ hm0
 have hp0 := yD hes hi0
 have hc0 := hF0.c
 simp only [Tm.cod] at hQ
 rw [if_pos ⟨h1, h2⟩] at hQ
 unfold zNi at hQ
 rw [zOG] at hQ
 refine ⟨_, _, _, rfl, ⟨by omega, by omega⟩, fun N1 hN1 => w7 hp0 hF0.ok (by omega) N1 _ fun N2 hN2 _ => Br.not (fun hr N3 hN3 => ?_) fun hr N9 hN9 => ?_⟩
 ·rw [if_neg (by rw [hr]; decide)] at hQ
  refine hS _ _ hp0 hF0 N3 _ fun dx N4 hN4 hx _ _ => ⟨⟨rfl, rfl⟩, fun a1 _ _ N5 hN5 hb => ?_⟩
  exact zNZ hd0 hF.z.g hx hl1 hb (N0 := N) (fun d N => Q d (Tm.stp f (l.getD 0 tm0)).2 true N) fun d' N6 hN6 hd' => hQ _ _ (by omega) hd'
 ·rw [if_pos hr] at hQ
  refine zEG hp0 hF0.ok (by omega) N9 _ fun dx N10 hN10 hx _ _ => Br.of (fun hv N11 hN11 => ?_) fun hv N12 hN12 => ?_
  ·by_cases h10 : (l.getD 0 tm0).kd = 10
   ·rw [if_pos ⟨h10, hr⟩] at hx
    rw [if_pos h10] at hQ
    exact hQ _ _ (by omega) hx
   ·rw [if_neg (fun h => h10 h.1)] at hv
    first | exact absurd (show true = false from hv) (by decide) | exact absurd (show false = true from hv) (by decide)
  ·by_cases h10 : (l.getD 0 tm0).kd = 10
   ·rw [if_pos ⟨h10, hr⟩] at hv
    first | exact absurd (show true = false from hv) (by decide) | exact absurd (show false = true from hv) (by decide)
   ·rw [if_neg h10] at hQ
    exact hQ _ _ (by omega) hd0
theorem zDz : ∀ f, zNa 41 f
 | 0 => fun e d _ hF => absurd (Tm.dp_pos e) (by have := hF.d; omega)
 | f + 1 => fun e d hd hF N Q hQ => by
   have ih := zDz f
   cases e with
   | mk k nm ot n0 ty re l =>
   have hd0 := hd
   obtain ⟨t0, t1, r0, r1, a, es, c, rfl, hh, hlen, hes⟩ := Tm.is_mk.1 hd
   have hl := hes.len
   have hcc := hF.c
   simp only [Tm.stp] at hQ
   refine zHL N _ Q fun _ N1 hN1 => w7 hd0 hF.ok (by omega) N1 _ fun N2 hN2 _ => Br.of (fun hv N3 hN3 => ?_) fun hv => ⟨_, rfl, Br.beq (fun h10 => ?_) fun h10 N10 hN10 => ?_⟩
   ·rw [if_pos hv] at hQ
    exact hQ _ _ (by omega) hd0
   ·rw [if_neg (by rw [hv]; decide), if_pos (show (Tm.mk k nm ot n0 ty re l).kd = 10 from h10)] at hQ
    have hl1 := (xn hF.ok).1 (by omega)
    have hm0 := zJ (l := l) (i := 0) (by omega)
    have hdm := dp_mem (k := k) (nm := nm) (ot := ot) (n := n0) (ty := ty) (re := re) hm0
    have hdd := hF.dp
    refine ⟨_, _, _, rfl, ⟨by omega, by omega⟩, fun N4 hN4 => ?_⟩
    refine zGl ih _ _ (yD hes (j := 0) (by omega)) ((hF.mem _ hm0).up (by omega)) 1 (by unfold LvIn; omega) N4 _ fun dx N5 hN5 hx _ _ => ⟨⟨rfl, rfl⟩, fun a1 _ _ N6 hN6 hb => ?_⟩
    exact zNZ hd0 hF.z.g hx hl1 hb (N0 := N) (fun d N => Q d (Tm.cod (Tm.stp f) (l.getD 0 tm0) 1).2.1 N) fun d' N6 hN6 hd' => hQ _ _ (by omega) hd'
   ·rw [if_neg (by rw [hv]; decide), if_neg (show ¬ (Tm.mk k nm ot n0 ty re l).kd = 10 from h10)] at hQ
    refine zJt N10 _ fun N11 hN11 _ => ?_
    have hsl : rh k l.length ≤ l.length := by
     unfold rh
     split
     ·exact Nat.le_refl _
     ·split
      ·rename_i h
       obtain ⟨b1, b2, b3, _⟩ := xn hF.ok
       rcases h with h | h | h | h
       ·have := b3 h; omega
       ·have := b2 (.inr h); omega
       ·have := b1 (by omega); omega
       ·have := b1 (by omega); omega
      ·omega
    have hal : All2 Tm.Is (l.take (rh k l.length)) (es.take (rh k l.length)) := by
     have : ∀ (n : Nat) (l : List Tm) (es : List D), All2 Tm.Is l es → All2 Tm.Is (l.take n) (es.take n) := by
      intro n
      induction n with
      | zero => intro l es _; simp; rfl
      | succ n ihn =>
        intro l es h
        cases l with
        | nil => cases h; exact rfl
        | cons x xs => obtain ⟨y, ys, rfl, h1, h2⟩ := h; exact ⟨y, ys.take n, rfl, h1, ihn _ _ h2⟩
     exact this _ _ _ hes
    have htl : (es.take (rh k l.length)).length = rh k l.length := by rw [List.length_take]; omega
    rw [hl]
    refine up hal (by omega) (fun i xs => ∀ N', N ≤ N' → (∀ j x, j < i → (l.take (rh k l.length))[j]? = some x → x.res = true) → (∀ r : Tm × Int, (match goS (Tm.stp f) (Tm.mk k nm ot n0 ty re l) xs i with | some r => r | none => (Tm.mk k nm ot n0 ty re l).apl) = r → ∀ d N'', N ≤ N'' → r.1.Is d → Q d r.2 N'') →
     w4 Q N (rh k l.length : Nat) i (.ag [.lit (.int .i64 k), .lit (.string nm), .lit (.string ot), .lit (.int .i64 n0), t0, t1, r0, r1, .sl a 9 es c]) 0 (bytes []) (bytes []) 0 0 none [] 0 0 none [] 0 none [] 0 N') ?_ ?_ N11 (by omega) (fun j x h => absurd h (by omega)) (fun r hr d N'' h1 h2 => by rw [← hr]; rw [← hr] at h2; exact hQ d N'' h1 h2)
    ·intro i hlt hi N' hN' hk hr
     rw [htl] at hlt
     refine qG _ _ _ _ _ _ _ _ _ _ _ _ _ _ _ _ _ _ _ _ _ ?_
     rw [hlt]
     have hr := hr _ rfl
     simp only [goS] at hr
     refine fun N9 hN9 => zNx hd0 hF (fun h12 => ?_) N9 _ fun dx N10 hN10 hx _ _ N11 hN11 => hr _ _ (by omega) hx
     have hs1 : rh k l.length = 1 := by simp [rh, h12]
     refine hk 0 _ (by omega) ?_
     rw [hs1, List.getElem?_take_of_lt (by omega)]
     exact zT (by omega)
    ·intro i x xs hat hxs ih2 N' hN' hk hr
     have hb := hat.b
     have hlt := hat.lt
     rw [htl] at hlt hb
     have hil : i < l.length := by omega
     have hxl : l[i]? = some x := by
      have := hat.g
      rw [List.getElem?_take_of_lt (by omega)] at this
      exact this
     obtain rfl : l.getD i tm0 = x := by rw [List.getD_eq_getElem?_getD, hxl]; rfl
     have hFx := hF.mem _ (zJ hil)
     have hcx := hFx.c
     refine qG _ _ _ _ _ _ _ _ _ _ _ _ _ _ _ _ _ _ _ _ _ ?_
     rw [hlt, hat.w]
     refine ⟨_, _, _, rfl, ⟨by omega, by omega⟩, fun N1 hN1 => ?_⟩
     rw [Int.toNat_natCast]
     refine w7 (yD hes hil) hFx.ok (by omega) N1 _ fun N2 hN2 _ => Br.of (fun hv => ?_) fun hv => ?_
     ·rw [zA5 hv] at hr
      refine ih2 _ (by omega) (fun j y hj hy => ?_) hr
      by_cases hji : j < i
      ·exact hk j y hji hy
      ·have : j = i := by omega
       subst this
       rw [hat.g] at hy
       rw [← Option.some.inj hy]; exact hv
     ·have hr := hr _ rfl
      simp only [goS] at hr
      rw [if_neg (by rw [hv]; decide)] at hr
      refine ⟨_, _, _, rfl, ⟨by omega, by omega⟩, fun N3 hN3 => ?_⟩
      refine ih _ _ (yD hes hil) hFx N3 _ fun dx N4 hN4 hx _ _ N5 hN5 => ?_
      have := zOF sR hd0 hF.z.g hx hil (N0 := N) (N := N5) (fun d N => Q d (Tm.stp f (l.getD i tm0)).2 N) fun d' N6 hN6 hd' => hr _ _ (by omega) hd'
      simpa only [Int.toNat_natCast] using this
end Go.Proofs.YtnpjpplbkoammaaGreatDoor
