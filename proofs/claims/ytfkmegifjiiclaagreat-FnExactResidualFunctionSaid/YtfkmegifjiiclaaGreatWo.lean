/- Bodies, as the program has them. -/
import Derived.Test.YtfkmegifjiiclaaGreatWn
import Derived.Test.YtfkmegifjiiclaaGreatWm
set_option linter.unusedVariables false
set_option linter.unusedSimpArgs false
namespace Go.Proofs.YtfkmegifjiiclaaGreat
open Go Go.Proofs Go.Proofs.Tryz Go.IntWalk

theorem zGj : ∀ (t : Tm) (d : D), t.Is d → t.cnt ≤ 1073741824 → tf 57 [.dg 9 d] t.sz := by
 refine Tm.ind fun k nm ot n0 ty re l ih d hd hc N Q hQ => ?_
 obtain ⟨t0, t1, r0, r1, a, es, c, rfl, hh, hlen, hes⟩ := Tm.is_mk.1 hd
 simp only [Tm.cnt] at hc
 have hsl := zCw l
 refine zG6 N _ Q fun _ => ⟨_, _, _, rfl, ?_⟩
 refine up hes hlen (fun i xs => ∀ (m : Nat) (N' : Nat), N ≤ N' → m + zBp xs = 1 + zBp l → wP Q N m a es c es.length i N') ?_ ?_ 1 N (Nat.le_refl _) rfl
 ·intro i hlt _ m N' hN' hm
  refine sj _ _ _ _ _ _ _ _ _ ?_
  simp only [zBp] at hm
  repeat' first|with_reducible intro _|simp only[hlt,Y1,Y2,Y3,Y4]|(with_reducible first|refine X1 ?_ ?_|refine X2 ?_ ?_|refine X3 ?_ ?_|refine X4 ?_ ?_|refine X5 ?_ ?_|refine X6 ?_ ?_|refine X7 ?_ ?_|refine X8 ?_ ?_|refine X9 ?_ ?_)|refine⟨_,_,_,rfl,?_⟩|refine⟨_,rfl,?_⟩|((with_reducible refine And.intro ?_ ?_);·first|omega|trivial|(show _=_;rfl)|((with_reducible refine And.intro ?_ ?_)<;>first|omega|trivial|(show _=_;rfl)))|fail
  exact Qi (hQ _ (by omega)) (by simp only [Tm.sz]; omega)
 ·intro i x xs hat _ ih2 m N' hN' hm
  have hb := hat.b
  have hxc := zR hat.m
  simp only [zBp] at hm
  refine sj _ _ _ _ _ _ _ _ _ ?_
  repeat' first|with_reducible intro _|simp only[hat.lt, hat.w, Int.toNat_natCast,Y1,Y2,Y3,Y4]|(with_reducible first|refine X1 ?_ ?_|refine X2 ?_ ?_|refine X3 ?_ ?_|refine X4 ?_ ?_|refine X5 ?_ ?_|refine X6 ?_ ?_|refine X7 ?_ ?_|refine X8 ?_ ?_|refine X9 ?_ ?_)|refine⟨_,_,_,rfl,?_⟩|refine⟨_,rfl,?_⟩|((with_reducible refine And.intro ?_ ?_);·first|omega|trivial|(show _=_;rfl)|((with_reducible refine And.intro ?_ ?_)<;>first|omega|trivial|(show _=_;rfl)))|refine (ih x hat.m _ hat.r (by omega)) _ _ ?_|fail
  rw [i64_in _ (by omega)]
  exact ih2 (m + x.sz) _ (by omega) (by omega)
theorem zEW : ∀ (t : Tm) (d : D), t.Is d → t.cnt ≤ 1073741824 → tf 147 [.dg 9 d] t.dp := by
 refine Tm.ind fun k nm ot n0 ty re l ih d hd hc N Q hQ => ?_
 obtain ⟨t0, t1, r0, r1, a, es, c, rfl, hh, hlen, hes⟩ := Tm.is_mk.1 hd
 simp only [Tm.cnt] at hc
 have hdl := qu l
 refine zD5 N _ Q fun _ => ⟨_, _, _, rfl, ?_⟩
 refine up hes hlen (fun i xs => ∀ (m : Nat) (N' : Nat), N ≤ N' → max m (zB1 xs) = zB1 l → xj Q N m a es c es.length i N') ?_ ?_ 0 N (Nat.le_refl _) (by omega)
 ·intro i hlt _ m N' hN' hm
  refine sN _ _ _ _ _ _ _ _ _ ?_
  simp only [zB1] at hm
  repeat' first|with_reducible intro _|simp only[hlt,Y1,Y2,Y3,Y4]|(with_reducible first|refine X1 ?_ ?_|refine X2 ?_ ?_|refine X3 ?_ ?_|refine X4 ?_ ?_|refine X5 ?_ ?_|refine X6 ?_ ?_|refine X7 ?_ ?_|refine X8 ?_ ?_|refine X9 ?_ ?_)|refine⟨_,_,_,rfl,?_⟩|refine⟨_,rfl,?_⟩|((with_reducible refine And.intro ?_ ?_);·first|omega|trivial|(show _=_;rfl)|((with_reducible refine And.intro ?_ ?_)<;>first|omega|trivial|(show _=_;rfl)))|fail
  rw [i64_in _ (by omega)]
  exact Qi (hQ _ (by omega)) (by simp only [Tm.dp]; omega)
 ·intro i x xs hat _ ih2 m N' hN' hm
  have hb := hat.b
  have hxc := zR hat.m
  simp only [zB1] at hm
  refine sN _ _ _ _ _ _ _ _ _ ?_
  repeat' first|with_reducible intro _|simp only[hat.lt, hat.w, Int.toNat_natCast,Y1,Y2,Y3,Y4]|(with_reducible first|refine X1 ?_ ?_|refine X2 ?_ ?_|refine X3 ?_ ?_|refine X4 ?_ ?_|refine X5 ?_ ?_|refine X6 ?_ ?_|refine X7 ?_ ?_|refine X8 ?_ ?_|refine X9 ?_ ?_)|refine⟨_,_,_,rfl,?_⟩|refine⟨_,rfl,?_⟩|((with_reducible refine And.intro ?_ ?_);·first|omega|trivial|(show _=_;rfl)|((with_reducible refine And.intro ?_ ?_)<;>first|omega|trivial|(show _=_;rfl)))|refine (ih x hat.m _ hat.r (by omega)) _ _ ?_|fail
  have e : (if (x.dp : Int) > (m : Int) then (x.dp : Int) else (m : Int)) = ((max m x.dp : Nat) : Int) := by split <;> omega
  rw [e]
  exact ih2 (max m x.dp) _ (by omega) (by omega)
theorem p8 (t : Tm) (d : D) (hd : t.Is d) (hc : t.cnt ≤ 1073741824) : wS 99 [.dg 9 d] t.vd := fun N Q hQ => by
 refine pH N _ Q fun _ => ?_
 repeat' first|with_reducible intro _|simp only[Y1,Y2,Y3,Y4]|(with_reducible first|refine X1 ?_ ?_|refine X2 ?_ ?_|refine X3 ?_ ?_|refine X4 ?_ ?_|refine X5 ?_ ?_|refine X6 ?_ ?_|refine X7 ?_ ?_|refine X8 ?_ ?_|refine X9 ?_ ?_)|refine⟨_,_,_,rfl,?_⟩|refine⟨_,rfl,?_⟩|((with_reducible refine And.intro ?_ ?_);·first|omega|trivial|(show _=_;rfl)|((with_reducible refine And.intro ?_ ?_)<;>first|omega|trivial|(show _=_;rfl)))|refine (pV t d hd hc) _ _ ?_|refine (zGj t d hd hc) _ _ ?_|refine (zEW t d hd hc) _ _ ?_|fail
 ·have h8 : t.sz ≤ 80 := by omega
  refine Qb (hQ _ (by omega)) ?_
  have : decide ((t.dp : Int) ≤ 20) = decide (t.dp ≤ 20) := by rw [Bool.eq_iff_iff, decide_eq_true_iff, decide_eq_true_iff]; omega
  simp [Tm.vd, *]
 ·have h8 : ¬ t.sz ≤ 80 := by omega
  refine Qb (hQ _ (by omega)) ?_; simp [Tm.vd, *]
 ·refine Qb (hQ _ (by omega)) ?_; simp [Tm.vd, *]
theorem zHa (t : Tm) (d : D) (hd : t.Is d) : wS 96 [.dg 9 d] (match t with | .mk k _ _ _ _ _ _ => zBy k) := fun N Q hQ => by
 cases t with
 | mk k nm ot n0 ty re l =>
 obtain ⟨t0, t1, r0, r1, a, es, c, rfl, hh, hlen, hes⟩ := Tm.is_mk.1 hd
 refine zA3 N _ Q fun _ => ?_
 repeat' first|with_reducible intro _|simp only[Y1,Y2,Y3,Y4]|(with_reducible first|refine X1 ?_ ?_|refine X2 ?_ ?_|refine X3 ?_ ?_|refine X4 ?_ ?_|refine X5 ?_ ?_|refine X6 ?_ ?_|refine X7 ?_ ?_|refine X8 ?_ ?_|refine X9 ?_ ?_)|refine⟨_,_,_,rfl,?_⟩|refine⟨_,rfl,?_⟩|((with_reducible refine And.intro ?_ ?_);·first|omega|trivial|(show _=_;rfl)|((with_reducible refine And.intro ?_ ?_)<;>first|omega|trivial|(show _=_;rfl)))|refine (zq _ _ _) _ _ ?_|fail
 all_goals (refine Qb (hQ _ (by omega)) ?_; simp [zBy, *])
theorem zBc {p : Tm → Bool} {l : List Tm} {es : List D} (h : All2 Tm.Is l es) (hlen : es.length ≤ 4611686018427387904) (ad : Addr) (hp : ∀ x ∈ l, ∀ d, x.Is d → wS 142 [.dg 9 d, .pd ad 0 (.fn 96 [])] (p x)) (a : Option Addr) (c : Nat) :
  wS 80 [.sv a 9 es c, .fn 142 [.pd ad 0 (.fn 96 [])]] (l.any p) := fun N Q hQ => by
 have hi : tf 132 [.sv a 9 es c, .fn 142 [.pd ad 0 (.fn 96 [])]] (zA9 p l 0) := fun N Q hQ => by
  refine vg N a es c ad Q fun _ => ?_
  refine up h hlen (fun i xs => ∀ (N' : Nat), N ≤ N' → (∀ N'', N' ≤ N'' → Q (zA9 p xs i) N'') → zi Q N a es c ad es.length i N') ?_ ?_ N (Nat.le_refl _) hQ
  ·intro i hlt _ N' hN' hQ'
   refine xP _ _ _ _ _ _ _ _ _ ?_
   repeat' first|with_reducible intro _|simp only[hlt,Y1,Y2,Y3,Y4]|(with_reducible first|refine X1 ?_ ?_|refine X2 ?_ ?_|refine X3 ?_ ?_|refine X4 ?_ ?_|refine X5 ?_ ?_|refine X6 ?_ ?_|refine X7 ?_ ?_|refine X8 ?_ ?_|refine X9 ?_ ?_)|refine⟨_,_,_,rfl,?_⟩|refine⟨_,rfl,?_⟩|((with_reducible refine And.intro ?_ ?_);·first|omega|trivial|(show _=_;rfl)|((with_reducible refine And.intro ?_ ?_)<;>first|omega|trivial|(show _=_;rfl)))|fail
   exact hQ' _ (by omega)
  ·intro i x xs hat _ ih2 N' hN' hQ'
   have hb := hat.b
   simp only [zA9] at hQ'
   refine xP _ _ _ _ _ _ _ _ _ ?_
   repeat' first|with_reducible intro _|simp only[hat.lt, hat.w, Int.toNat_natCast,Y1,Y2,Y3,Y4]|(with_reducible first|refine X1 ?_ ?_|refine X2 ?_ ?_|refine X3 ?_ ?_|refine X4 ?_ ?_|refine X5 ?_ ?_|refine X6 ?_ ?_|refine X7 ?_ ?_|refine X8 ?_ ?_|refine X9 ?_ ?_)|refine⟨_,_,_,rfl,?_⟩|refine⟨_,rfl,?_⟩|((with_reducible refine And.intro ?_ ?_);·first|omega|trivial|(show _=_;rfl)|((with_reducible refine And.intro ?_ ?_)<;>first|omega|trivial|(show _=_;rfl)))|refine (hp x hat.m _ hat.r) _ _ ?_|fail
   ·exact Qi (hQ' _ (by omega)) (by rw [if_pos (by assumption)])
   ·rename_i h; exact ih2 _ (by omega) fun N'' h2 => Qi (hQ' _ (by omega)) (by rw [h]; simp)
 refine ws N a es c ad Q fun _ => ?_
 repeat' first|with_reducible intro _|simp only[Y1,Y2,Y3,Y4]|(with_reducible first|refine X1 ?_ ?_|refine X2 ?_ ?_|refine X3 ?_ ?_|refine X4 ?_ ?_|refine X5 ?_ ?_|refine X6 ?_ ?_|refine X7 ?_ ?_|refine X8 ?_ ?_|refine X9 ?_ ?_)|refine⟨_,_,_,rfl,?_⟩|refine⟨_,rfl,?_⟩|((with_reducible refine And.intro ?_ ?_);·first|omega|trivial|(show _=_;rfl)|((with_reducible refine And.intro ?_ ?_)<;>first|omega|trivial|(show _=_;rfl)))|refine hi _ _ ?_|fail
 exact Qb (hQ _ (by omega)) (v9 _ l 0 (by omega)).symm
theorem zKL : ∀ l : List Tm, zLO l = !(l.any fun x => !x.isB)
 | [] => rfl
 | t :: ts => by simp only [zLO, List.any_cons, zKL ts]; cases t.isB <;> simp
theorem zJN : ∀ (t : Tm) (d : D), t.Is d → wS 95 [.dg 9 d, .fn 96 []] t.isB := by
 refine Tm.ind fun k nm ot n ty re l ih d hd N Q hQ => ?_
 have hb := zHa _ d hd
 obtain ⟨t0, t1, r0, r1, a, es, c, rfl, hh, hlen, hes⟩ := Tm.is_mk.1 hd
 simp only at hb
 refine qg N _ Q fun _ => ?_
 simp only [Tm.isB, zKL] at hQ
 repeat' first|with_reducible intro _|simp only[Y1,Y2,Y3,Y4]|(with_reducible first|refine X1 ?_ ?_|refine X2 ?_ ?_|refine X3 ?_ ?_|refine X4 ?_ ?_|refine X5 ?_ ?_|refine X6 ?_ ?_|refine X7 ?_ ?_|refine X8 ?_ ?_|refine X9 ?_ ?_)|refine⟨_,_,_,rfl,?_⟩|refine⟨_,rfl,?_⟩|((with_reducible refine And.intro ?_ ?_);·first|omega|trivial|(show _=_;rfl)|((with_reducible refine And.intro ?_ ?_)<;>first|omega|trivial|(show _=_;rfl)))|refine hb _ _ ?_|refine (zBc hes hlen _ (fun x hx d hd => fun N Q hQ => rG N d _ Q fun _ N1 hN1 => ih x hx d hd N1 _ fun N2 hN2 hle N3 hN3 => hQ N3 (by omega)) _ _) _ _ ?_|fail
 all_goals (refine Qb (hQ _ (by omega)) ?_; simp [*])
theorem zDv (l : List ByteArray) (hl : l.length ≤ 4611686018427387904) (a : Option Addr) (c : Nat) (s : ByteArray) : tf 145 [.sv a 0 (xD l) c, .str s] (zA9 (fun x => decide (s = x)) l 0) := fun N Q hQ => by
 refine zEQ N a _ c s Q fun _ => ?_
 repeat' first|with_reducible intro _|simp only[Y1,Y2,Y3,Y4]|(with_reducible first|refine X1 ?_ ?_|refine X2 ?_ ?_|refine X3 ?_ ?_|refine X4 ?_ ?_|refine X5 ?_ ?_|refine X6 ?_ ?_|refine X7 ?_ ?_|refine X8 ?_ ?_|refine X9 ?_ ?_)|refine⟨_,_,_,rfl,?_⟩|refine⟨_,rfl,?_⟩|((with_reducible refine And.intro ?_ ?_);·first|omega|trivial|(show _=_;rfl)|((with_reducible refine And.intro ?_ ?_)<;>first|omega|trivial|(show _=_;rfl)))|refine (zDO l hl a c s) _ _ ?_|fail
 exact hQ _ (by omega)
def vp (g : List Pm) : List ByteArray := g.map (·.nm)
theorem zIe (g : List Pm) : (vp g).length = g.length := by simp [vp]
theorem zIa {g : List Pm} {es : List D} (h : Pms g es) (hg : g.length ≤ 1073741824) (a : Option Addr) (c : Nat) (N : Nat) (Q : QT [.sl 0])
  (hQ : ∀ a' c' N', N ≤ N' → Q a' (xD (vp g)) c' N') : ACalls prog 77 [.sl 0] [.sv a 4 es c] N Q := by
 have hl := h.all.len
 refine zAS N a es c Q fun _ => ?_
 have key := up h.all h.len (fun i xs => ∀ (q : Nat) (N' : Nat), N ≤ N' → yp Q N (xD ((vp g).take i)).length q a es c es.length i (xD ((vp g).take i)) q N') ?_ ?_
 ·exact key 0 N (Nat.le_refl _)
 ·intro i hlt hi q N' hN'
  refine vi _ _ _ _ _ _ _ _ _ _ _ _ ?_
  rw [List.take_of_length_le (by rw [zIe]; omega)]
  repeat' first|with_reducible intro _|simp only[hlt,Y1,Y2,Y3,Y4]|(with_reducible first|refine X1 ?_ ?_|refine X2 ?_ ?_|refine X3 ?_ ?_|refine X4 ?_ ?_|refine X5 ?_ ?_|refine X6 ?_ ?_|refine X7 ?_ ?_|refine X8 ?_ ?_|refine X9 ?_ ?_)|refine⟨_,_,_,rfl,?_⟩|refine⟨_,rfl,?_⟩|((with_reducible refine And.intro ?_ ?_);·first|omega|trivial|(show _=_;rfl)|((with_reducible refine And.intro ?_ ?_)<;>first|omega|trivial|(show _=_;rfl)))|fail
  exact hQ _ _ _ (by omega)
 ·intro i x xs hat _ ih2 q N' hN'
  have hb := hat.b
  have hm := hat.m
  obtain ⟨t0, t1, hd', hnm, hty⟩ := hat.r
  refine vi _ _ _ _ _ _ _ _ _ _ _ _ ?_
  have hat2 : (vp g)[i]? = some x.nm := by rw [vp, List.getElem?_map, hat.g]; rfl
  repeat' first|with_reducible intro _|simp only[hat.lt, hat.w, Int.toNat_natCast, hd',Y1,Y2,Y3,Y4]|(with_reducible first|refine X1 ?_ ?_|refine X2 ?_ ?_|refine X3 ?_ ?_|refine X4 ?_ ?_|refine X5 ?_ ?_|refine X6 ?_ ?_|refine X7 ?_ ?_|refine X8 ?_ ?_|refine X9 ?_ ?_)|refine⟨_,_,_,rfl,?_⟩|refine⟨_,rfl,?_⟩|((with_reducible refine And.intro ?_ ?_);·first|omega|trivial|(show _=_;rfl)|((with_reducible refine And.intro ?_ ?_)<;>first|omega|trivial|(show _=_;rfl)))|fail
  refine ⟨by unfold zB; rw [List.length_append, zAc, List.length_take]; simp only [List.length_cons, List.length_nil]; omega, fun c1 => ?_⟩
  rw [zCl, ← zY hat2]
  exact ih2 _ _ hN'
theorem zEv {α : Type} (p : α → Bool) (s : α) (hs : p s = true) (rest : List α) : ∀ (seen : List α) (k : Int), (zA9 p (seen ++ s :: rest) k = k + seen.length ↔ seen.any p = false) ∧ zA9 p (seen ++ s :: rest) k ≥ k
 | [], k => by simp [zA9, hs]
 | x :: seen, k => by
   have ih := zEv p s hs rest seen (k + 1)
   simp only [List.cons_append, zA9, List.any_cons, List.length_cons]
   cases hx : p x with
   | true => simp; omega
   | false =>
     simp only [Bool.false_eq_true, if_false, Bool.false_or]
     refine ⟨?_, by omega⟩
     rw [← ih.1]; constructor <;> intro h <;> omega
theorem zM2 {s : ByteArray} (l : List ByteArray) : (l.any fun x => decide (s = x)) = l.any fun x => decide (x = s) := by
 induction l with
 | nil => rfl
 | cons x l ih => simp only [List.any_cons, ih, eq_comm]
theorem zBk {g : List Pm} {es : List D} (h : Pms g es) (hg : g.length ≤ 1073741824) (a : Option Addr) (c : Nat) : wS 98 [.sv a 4 es c] (rS g) := fun N Q hQ => by
 have hl := h.all.len
 refine zBb N a es c Q fun _ => ?_
 have hnl := zIe g
 have key := fun (h5 : g.length ≤ 5) a3 c3 (N2 : Nat) (hN2 : N ≤ N2) => up h.all h.len (fun i xs => ∀ (N' : Nat), N2 ≤ N' → (∀ N'', N' ≤ N'' → Q (zER ((vp g).take i) xs) N'') → xC Q N a3 (xD (vp g)) c3 a es c es.length i N') ?_ ?_
 ·repeat' first|with_reducible intro _|simp only[Y1,Y2,Y3,Y4]|(with_reducible first|refine X1 ?_ ?_|refine X2 ?_ ?_|refine X3 ?_ ?_|refine X4 ?_ ?_|refine X5 ?_ ?_|refine X6 ?_ ?_|refine X7 ?_ ?_|refine X8 ?_ ?_|refine X9 ?_ ?_)|refine⟨_,_,_,rfl,?_⟩|refine⟨_,rfl,?_⟩|((with_reducible refine And.intro ?_ ?_);·first|omega|trivial|(show _=_;rfl)|((with_reducible refine And.intro ?_ ?_)<;>first|omega|trivial|(show _=_;rfl)))|refine (zIa h hg a c) _ _ ?_|fail
  ·refine Qb (hQ _ (by omega)) ?_
   have : ¬ g.length ≤ 5 := by omega
   simp [rS, this]
  ·have h5 : g.length ≤ 5 := by omega
   refine key h5 _ _ _ ?_ _ (Nat.le_refl _) fun N'' hN'' => Qb (hQ N'' ?_) ?_
   all_goals first | omega | skip
   simp [rS, h5]
 ·intro i hlt hi N' hN' hQ'
  refine uI _ _ _ _ _ _ _ _ _ _ _ ?_
  repeat' first|with_reducible intro _|simp only[hlt,Y1,Y2,Y3,Y4]|(with_reducible first|refine X1 ?_ ?_|refine X2 ?_ ?_|refine X3 ?_ ?_|refine X4 ?_ ?_|refine X5 ?_ ?_|refine X6 ?_ ?_|refine X7 ?_ ?_|refine X8 ?_ ?_|refine X9 ?_ ?_)|refine⟨_,_,_,rfl,?_⟩|refine⟨_,rfl,?_⟩|((with_reducible refine And.intro ?_ ?_);·first|omega|trivial|(show _=_;rfl)|((with_reducible refine And.intro ?_ ?_)<;>first|omega|trivial|(show _=_;rfl)))|fail
  refine Qb (hQ' _ (by omega)) ?_
  simp [zER]
 ·intro i x xs hat _ ih2 N' hN' hQ'
  have hb := hat.b
  have hm := hat.m
  obtain ⟨t0, t1, hd', hnm, hty⟩ := hat.r
  simp only [zER] at hQ'
  have hat2 : (vp g)[i]? = some x.nm := by rw [vp, List.getElem?_map, hat.g]; rfl
  have hsp := (zEv (fun y => decide (x.nm = y)) x.nm (by simp) ((vp g).drop (i + 1)) ((vp g).take i) 0).1
  have hcut : (vp g).take i ++ x.nm :: (vp g).drop (i + 1) = vp g := by
   have hlt : i < (vp g).length := (List.getElem?_eq_some_iff.1 hat2).1
   have := (List.getElem?_eq_some_iff.1 hat2).2
   rw [← this, List.getElem_cons_drop, List.take_append_drop]
  rw [hcut, List.length_take, zM2] at hsp
  have hmin : min i (vp g).length = i := by omega
  rw [hmin] at hsp
  refine uI _ _ _ _ _ _ _ _ _ _ _ ?_
  repeat' first|with_reducible intro _|simp only[hat.lt, hat.w, Int.toNat_natCast, hd',Y1,Y2,Y3,Y4]|(with_reducible first|refine X1 ?_ ?_|refine X2 ?_ ?_|refine X3 ?_ ?_|refine X4 ?_ ?_|refine X5 ?_ ?_|refine X6 ?_ ?_|refine X7 ?_ ?_|refine X8 ?_ ?_|refine X9 ?_ ?_)|refine⟨_,_,_,rfl,?_⟩|refine⟨_,rfl,?_⟩|((with_reducible refine And.intro ?_ ?_);·first|omega|trivial|(show _=_;rfl)|((with_reducible refine And.intro ?_ ?_)<;>first|omega|trivial|(show _=_;rfl)))|refine (vH x.nm hnm) _ _ ?_|refine (tc x.ty _ hty) _ _ ?_|refine (zDv (vp g) (by omega) _ _ x.nm) _ _ ?_|fail
  ·refine Qb (hQ' _ (by omega)) ?_; simp [*]
  ·refine Qb (hQ' _ (by omega)) ?_; simp [*]
  ·rename_i hx _ _
   have hx2 : ¬ ((vp g).take i).any (fun y => decide (y = x.nm)) = false := fun hc => by have := hsp.2 hc; omega
   have hx3 : ((vp g).take i).any (fun y => decide (y = x.nm)) = true := by simpa using hx2
   refine Qb (hQ' _ (by omega)) ?_
   rw [hx3]; simp
  ·rename_i hx
   have hx2 : ((vp g).take i).any (fun y => decide (y = x.nm)) = false := hsp.1 (by omega)
   refine ih2 _ (by omega) fun N'' h2 => Qb (hQ' N'' (by omega)) ?_
   rw [hx2, zY hat2]; simp [*]
theorem zKF {N N' M : Nat} {a : Option Addr} {d : D} (hb : rY M [a]) (h : Own N N' d) (hM : M ≤ N) : Off [a] d := fun b hbm ad had hc => by
 have := h.lo _ hc
 have := hb b hbm ad had
 omega
theorem zM6 {g : List Pm} (hp : rS g = true) : zGf (xw g) = true := by
 simp only [rS, Bool.and_eq_true, decide_eq_true_eq] at hp
 simp only [zGf, Bool.and_eq_true, decide_eq_true_eq, sw]
 refine ⟨?_, by omega⟩
 have : ∀ l : List Pm, (∀ x ∈ l, ul x.nm = true ∧ x.ty.base = true) → zHP (xw l) = true := by
  intro l
  induction l with
  | nil => intro _; rfl
  | cons p l ih =>
    intro h
    have h1 := h p (by simp)
    have h2 := ih fun x hx => h x (by simp [hx])
    simp only [xw] at h2
    simp only [xw, List.map_cons, zHP, Tg.ok, Bool.and_eq_true, h2, and_true]
    exact ⟨h1.1, (zE1 h1.2).1, by decide⟩
 exact this g fun x hx => zC6 hp.1 hx
theorem zLx {g : List Pm} {e : Tm} (hp : rS g = true) (hv : e.vd = true) (hb : e.isB = true) : y5 g e = zFE (xw g) e 0 := by
 have hv2 := hv
 simp only [Tm.vd, Bool.and_eq_true] at hv2
 rw [y5, if_pos ⟨hp, hv, hb⟩, zFE, if_pos ⟨zM6 hp, by simp [zJC, hv2.2, zI7 e hb]⟩]
theorem zCh {g : List Pm} {es : List D} (h : Pms g es) (hg : g.length ≤ 1073741824) (hc2 : ∀ x ∈ g, x.ty.cnt ≤ 1073741824) {e : Tm} {d : D} (he : e.Is d) (hc : e.cnt ≤ 1048576000 / 2) (a : Option Addr) (c : Nat) : zQb 45 [.sv a 4 es c, .dg 9 d] (y5 g e) := fun N Q hQ => by
 have hl := h.all.len
 refine zDT N a es c d Q fun _ _ => ?_
 have key := fun (hp : rS g = true) (hv : e.vd = true) (hb : e.isB = true) => up h.all h.len (fun i xs => ∀ (done : List D) (q : Nat) (N' : Nat), N ≤ N' → All2 Tg.Is ((xw g).take i) done → done.length = i → xI Q N done.length q a es c es.length i d 0 none [] 0 done q N') ?_ ?_
 ·repeat' first|with_reducible intro _|simp only[Y1,Y2,Y3,Y4]|(with_reducible first|refine X1 ?_ ?_|refine X2 ?_ ?_|refine X3 ?_ ?_|refine X4 ?_ ?_|refine X5 ?_ ?_|refine X6 ?_ ?_|refine X7 ?_ ?_|refine X8 ?_ ?_|refine X9 ?_ ?_)|refine⟨_,_,_,rfl,?_⟩|refine⟨_,rfl,?_⟩|((with_reducible refine And.intro ?_ ?_);·first|omega|trivial|(show _=_;rfl)|((with_reducible refine And.intro ?_ ?_)<;>first|omega|trivial|(show _=_;rfl)))|refine (zJN e d he) _ _ ?_|refine (zBk h hg a c) _ _ ?_|refine (p8 e d he (by omega)) _ _ ?_|fail
  ·rw [show y5 g e = none by unfold y5; rw [if_neg (by simp [*])]] at hQ
   exact hQ _ _ (by omega) (xu 0) yA
  ·rw [show y5 g e = none by unfold y5; rw [if_neg (by simp [*])]] at hQ
   exact hQ _ _ (by omega) (xu 0) yA
  ·rw [show y5 g e = none by unfold y5; rw [if_neg (by simp [*])]] at hQ
   exact hQ _ _ (by omega) (xu 0) yA
  ·exact key (by assumption) (by assumption) (by assumption) [] 0 _ (by omega) rfl rfl
 ·intro i hlt hi done q N' hN' hd hs
  refine uc _ _ _ _ _ _ _ _ _ _ _ _ _ _ _ _ _ ?_
  rw [List.take_of_length_le (by rw [sw]; omega)] at hd
  rw [zLx hp hv hb] at hQ
  have hcg : ∀ x ∈ xw g, x.ty.cnt ≤ 1073741824 := fun x hx => by obtain ⟨p, hpg, rfl⟩ := zHz hx; exact hc2 p hpg
  repeat' first|with_reducible intro _|simp only[hlt,Y1,Y2,Y3,Y4]|(with_reducible first|refine X1 ?_ ?_|refine X2 ?_ ?_|refine X3 ?_ ?_|refine X4 ?_ ?_|refine X5 ?_ ?_|refine X6 ?_ ?_|refine X7 ?_ ?_|refine X8 ?_ ?_|refine X9 ?_ ?_)|refine⟨_,_,_,rfl,?_⟩|refine⟨_,rfl,?_⟩|((with_reducible refine And.intro ?_ ?_);·first|omega|trivial|(show _=_;rfl)|((with_reducible refine And.intro ?_ ?_)<;>first|omega|trivial|(show _=_;rfl)))|fail
  rename_i ad hapa hoff N1 hN1 hbel
  refine zG8 ⟨by omega, hd⟩ hcg he hc ad q 0 N1 _ fun x N2 hN2 hx hox _ => ?_
  exact ⟨zKF hbel hox (Nat.le_refl _), fun _ N3 hN3 => hQ _ _ (by omega) hx (hox.mono (by omega) hN3)⟩
 ·intro i x xs hat _ ih2 done q N' hN' hd hs
  have hb := hat.b
  have hm := hat.m
  obtain ⟨t0, t1, hd', hnm, hty⟩ := hat.r
  refine uc _ _ _ _ _ _ _ _ _ _ _ _ _ _ _ _ _ ?_
  have hat2 : (xw g)[i]? = some ⟨x.nm, x.ty, 0⟩ := by rw [xw, List.getElem?_map, hat.g]; rfl
  repeat' first|with_reducible intro _|simp only[hat.lt, hat.w, Int.toNat_natCast, hd',Y1,Y2,Y3,Y4]|(with_reducible first|refine X1 ?_ ?_|refine X2 ?_ ?_|refine X3 ?_ ?_|refine X4 ?_ ?_|refine X5 ?_ ?_|refine X6 ?_ ?_|refine X7 ?_ ?_|refine X8 ?_ ?_|refine X9 ?_ ?_)|refine⟨_,_,_,rfl,?_⟩|refine⟨_,rfl,?_⟩|((with_reducible refine And.intro ?_ ?_);·first|omega|trivial|(show _=_;rfl)|((with_reducible refine And.intro ?_ ?_)<;>first|omega|trivial|(show _=_;rfl)))|fail
  refine ⟨by unfold zB; rw [List.length_append]; simp only [List.length_cons, List.length_nil]; omega, fun c1 => ?_⟩
  exact ih2 _ _ _ hN' (by rw [zY hat2]; exact hd.snoc ⟨_, _, rfl, hnm, hty⟩) (by simp [hs])
end Go.Proofs.YtfkmegifjiiclaaGreat
