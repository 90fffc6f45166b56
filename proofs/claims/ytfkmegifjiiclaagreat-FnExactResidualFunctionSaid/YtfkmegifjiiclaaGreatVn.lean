/- The program's functions on names and types. -/
import Derived.Test.YtfkmegifjiiclaaGreatVm
import Derived.Test.YtfkmegifjiiclaaGreatKi
set_option linter.unusedVariables false
set_option linter.unusedSimpArgs false
namespace Go.Proofs.YtfkmegifjiiclaaGreat
open Go Go.Proofs Go.Proofs.Tryz Go.IntWalk

theorem zq (n a b : Int) : wS 97 [.int .i64 n, .int .i64 a, .int .i64 b] (inB n a b) := fun N Q hQ => by
 refine zHG N n a b Q ?_
 repeat' first|with_reducible intro _|simp only[Y1,Y2,Y3,Y4]|(with_reducible first|refine X1 ?_ ?_|refine X2 ?_ ?_|refine X3 ?_ ?_|refine X4 ?_ ?_|refine X5 ?_ ?_|refine X6 ?_ ?_|refine X7 ?_ ?_|refine X8 ?_ ?_|refine X9 ?_ ?_)|refine⟨_,_,_,rfl,?_⟩|refine⟨_,rfl,?_⟩|((with_reducible refine And.intro ?_ ?_);·first|omega|trivial|(show _=_;rfl)|((with_reducible refine And.intro ?_ ?_)<;>first|omega|trivial|(show _=_;rfl)))|fail
 all_goals simpa [inB, *] using hQ _ (by omega)

def zA9 {α : Type} (p : α → Bool) : List α → Int → Int
 | [], _ => -1
 | x :: xs, i => if p x then i else zA9 p xs (i + 1)
theorem v9 {α : Type} (p : α → Bool) : ∀ (l : List α) (i : Int), 0 ≤ i → decide (zA9 p l i ≥ 0) = l.any p
 | [], i, h => by simp [zA9]
 | x :: xs, i, h => by
   have ih := v9 p xs (i + 1) (by omega)
   rw [Bool.eq_iff_iff, decide_eq_true_iff] at ih ⊢
   simp only [zA9, List.any_cons, Bool.or_eq_true]
   by_cases hp : p x = true
   ·simp only [hp, if_true, true_or, iff_true]; exact h
   ·simpa [hp] using ih

/-- a row of words -/
def xD (l : List ByteArray) : List D := l.map fun s => .lit (.string s)
theorem zC7 : ∀ l : List ByteArray, All2 (fun s d => d = .lit (.string s)) l (xD l)
 | [] => rfl
 | s :: l => ⟨_, _, rfl, rfl, zC7 l⟩
theorem zDO (l : List ByteArray) (hl : l.length ≤ 4611686018427387904) (a : Option Addr) (c : Nat) (s : ByteArray) : tf 186 [.sv a 0 (xD l) c, .str s] (zA9 (fun x => decide (s = x)) l 0) := fun N Q hQ => by
 have hes := zC7 l
 have hlen : (xD l).length ≤ 4611686018427387904 := by rw [hes.len]; exact hl
 refine qb N a _ c s Q fun _ => ?_
 refine up hes hlen (fun i xs => ∀ (N' : Nat), N ≤ N' → (∀ N'', N' ≤ N'' → Q (zA9 (fun x => decide (s = x)) xs i) N'') → yL Q N a (xD l) c s ((xD l).length : Int) i N') ?_ ?_ N (Nat.le_refl _) hQ
 ·intro i hlt _ N' hN' hQ'
  refine wj _ _ _ _ _ _ _ _ _ ?_
  repeat' first|with_reducible intro _|simp only[hlt,Y1,Y2,Y3,Y4]|(with_reducible first|refine X1 ?_ ?_|refine X2 ?_ ?_|refine X3 ?_ ?_|refine X4 ?_ ?_|refine X5 ?_ ?_|refine X6 ?_ ?_|refine X7 ?_ ?_|refine X8 ?_ ?_|refine X9 ?_ ?_)|refine⟨_,_,_,rfl,?_⟩|refine⟨_,rfl,?_⟩|((with_reducible refine And.intro ?_ ?_);·first|omega|trivial|(show _=_;rfl)|((with_reducible refine And.intro ?_ ?_)<;>first|omega|trivial|(show _=_;rfl)))|fail
  exact hQ' _ (by omega)
 ·intro i x xs hat _ ih2 N' hN' hQ'
  have hb := hat.b
  have hr := hat.r
  simp only [zA9] at hQ'
  refine wj _ _ _ _ _ _ _ _ _ ?_
  repeat' first|with_reducible intro _|simp only[hat.lt, hat.w, Int.toNat_natCast, hr,Y1,Y2,Y3,Y4]|(with_reducible first|refine X1 ?_ ?_|refine X2 ?_ ?_|refine X3 ?_ ?_|refine X4 ?_ ?_|refine X5 ?_ ?_|refine X6 ?_ ?_|refine X7 ?_ ?_|refine X8 ?_ ?_|refine X9 ?_ ?_)|refine⟨_,_,_,rfl,?_⟩|refine⟨_,rfl,?_⟩|((with_reducible refine And.intro ?_ ?_);·first|omega|trivial|(show _=_;rfl)|((with_reducible refine And.intro ?_ ?_)<;>first|omega|trivial|(show _=_;rfl)))|fail
  ·rename_i h _ _; subst h; exact Qi (hQ' _ (by omega)) (by simp)
  ·rename_i h; exact ih2 _ hN' fun N'' h2 => Qi (hQ' _ h2) (by rw [if_neg (by simpa using h)]; simp)
theorem zDx (l : List ByteArray) (hl : l.length ≤ 4611686018427387904) (a : Option Addr) (c : Nat) (s : ByteArray) : wS 169 [.sv a 0 (xD l) c, .str s] (l.any fun x => decide (s = x)) := fun N Q hQ => by
 refine sR N a _ c s Q fun _ => ?_
 repeat' first|with_reducible intro _|simp only[Y1,Y2,Y3,Y4]|(with_reducible first|refine X1 ?_ ?_|refine X2 ?_ ?_|refine X3 ?_ ?_|refine X4 ?_ ?_|refine X5 ?_ ?_|refine X6 ?_ ?_|refine X7 ?_ ?_|refine X8 ?_ ?_|refine X9 ?_ ?_)|refine⟨_,_,_,rfl,?_⟩|refine⟨_,rfl,?_⟩|((with_reducible refine And.intro ?_ ?_);·first|omega|trivial|(show _=_;rfl)|((with_reducible refine And.intro ?_ ?_)<;>first|omega|trivial|(show _=_;rfl)))|refine (zDO l hl a c s) _ _ ?_|fail
 exact Qb (hQ _ (by omega)) (v9 _ l 0 (by omega)).symm
theorem vH (s : ByteArray) (hs : s.size ≤ 4611686018427387904) : wS 143 [.str s] (ul s) := fun N Q hQ => by
 refine zF4 N s Q ?_
 have key := upN hs (fun i => ∀ N', N ≤ N' → (∀ N'', N' ≤ N'' → Q (uC s i && zE0 s) N'') → ye Q N s (s.size : Int) i N') ?_ ?_
 ·exact key N (Nat.le_refl _) hQ
 ·intro hlt N' hN' hQ'
  have hc := zDx [bytes [105, 102], bytes [108, 101, 116], bytes [108, 105, 102, 116], bytes [114, 101, 99], bytes [114, 117, 110]] (by simp)
  simp only [xD, List.map] at hc
  refine sd _ _ _ _ _ _ ?_
  repeat' first|with_reducible intro _|simp only[hlt,Y1,Y2,Y3,Y4]|(with_reducible first|refine X1 ?_ ?_|refine X2 ?_ ?_|refine X3 ?_ ?_|refine X4 ?_ ?_|refine X5 ?_ ?_|refine X6 ?_ ?_|refine X7 ?_ ?_|refine X8 ?_ ?_|refine X9 ?_ ?_)|refine⟨_,_,_,rfl,?_⟩|refine⟨_,rfl,?_⟩|((with_reducible refine And.intro ?_ ?_);·first|omega|trivial|(show _=_;rfl)|((with_reducible refine And.intro ?_ ?_)<;>first|omega|trivial|(show _=_;rfl)))|refine (zq _ _ _) _ _ ?_|refine (hc _ _ _) _ _ ?_|fail
  all_goals (refine Qb (hQ' _ (by omega)) ?_; rw [zBO])
  ·simp only [zE0, List.any_cons, List.any_nil, Bool.or_false, *]
   cases decide (s = bytes [105, 102]) <;> cases decide (s = bytes [108, 101, 116]) <;> cases decide (s = bytes [108, 105, 102, 116]) <;> cases decide (s = bytes [114, 101, 99]) <;> cases decide (s = bytes [114, 117, 110]) <;> rfl
  ·simp [zE0, *]
 ·intro i hi hlt hw ih2 N' hN' hQ'
  refine sd _ _ _ _ _ _ ?_
  rw [pM hi] at hQ'
  repeat' first|with_reducible intro _|simp only[hlt, hw, Int.toNat_natCast,Y1,Y2,Y3,Y4]|(with_reducible first|refine X1 ?_ ?_|refine X2 ?_ ?_|refine X3 ?_ ?_|refine X4 ?_ ?_|refine X5 ?_ ?_|refine X6 ?_ ?_|refine X7 ?_ ?_|refine X8 ?_ ?_|refine X9 ?_ ?_)|refine⟨_,_,_,rfl,?_⟩|refine⟨_,rfl,?_⟩|((with_reducible refine And.intro ?_ ?_);·first|omega|trivial|(show _=_;rfl)|((with_reducible refine And.intro ?_ ?_)<;>first|omega|trivial|(show _=_;rfl)))|fail
  all_goals first
   | (refine Qb (hQ' _ (by omega)) ?_; unfold zFN zBM; simp only [*]; simp; done)
   | (refine ih2 _ (by omega) fun N'' h => Qb (hQ' N'' (by omega)) ?_; unfold zFN zBM; simp only [*]; simp; done)
theorem zAi : ∀ (t : Ty) (d : D), t.Is d → t.cnt ≤ 1073741824 → tf 206 [.dg 2 d] t.cnt := by
 refine Ty.ind fun k l ih d hd hc N Q hQ => ?_
 obtain ⟨a, es, c, rfl, hlen, hes⟩ := Ty.is_mk.1 hd
 simp only [Ty.cnt] at hc
 refine zAU N _ Q fun _ => ⟨_, _, _, rfl, ?_⟩
 refine up hes hlen (fun i xs => ∀ (m : Nat) (N' : Nat), N ≤ N' → m + zH xs = 1 + zH l → ym Q N m a es c es.length i N') ?_ ?_ 1 N (Nat.le_refl _) rfl
 ·intro i hlt _ m N' hN' hm
  refine vQ _ _ _ _ _ _ _ _ _ ?_
  simp only [zH] at hm
  repeat' first|with_reducible intro _|simp only[hlt,Y1,Y2,Y3,Y4]|(with_reducible first|refine X1 ?_ ?_|refine X2 ?_ ?_|refine X3 ?_ ?_|refine X4 ?_ ?_|refine X5 ?_ ?_|refine X6 ?_ ?_|refine X7 ?_ ?_|refine X8 ?_ ?_|refine X9 ?_ ?_)|refine⟨_,_,_,rfl,?_⟩|refine⟨_,rfl,?_⟩|((with_reducible refine And.intro ?_ ?_);·first|omega|trivial|(show _=_;rfl)|((with_reducible refine And.intro ?_ ?_)<;>first|omega|trivial|(show _=_;rfl)))|fail
  exact Qi (hQ _ (by omega)) (by simp only [Ty.cnt]; omega)
 ·intro i x xs hat _ ih2 m N' hN' hm
  have hb := hat.b
  have hxc := xn hat.m
  simp only [zH] at hm
  refine vQ _ _ _ _ _ _ _ _ _ ?_
  repeat' first|with_reducible intro _|simp only[hat.lt, hat.w, Int.toNat_natCast,Y1,Y2,Y3,Y4]|(with_reducible first|refine X1 ?_ ?_|refine X2 ?_ ?_|refine X3 ?_ ?_|refine X4 ?_ ?_|refine X5 ?_ ?_|refine X6 ?_ ?_|refine X7 ?_ ?_|refine X8 ?_ ?_|refine X9 ?_ ?_)|refine⟨_,_,_,rfl,?_⟩|refine⟨_,rfl,?_⟩|((with_reducible refine And.intro ?_ ?_);·first|omega|trivial|(show _=_;rfl)|((with_reducible refine And.intro ?_ ?_)<;>first|omega|trivial|(show _=_;rfl)))|refine (ih x hat.m _ hat.r (by omega)) _ _ ?_|fail
  rw [i64_in _ (by omega)]
  exact ih2 (m + x.cnt) _ (by omega) (by omega)
theorem qp : ∀ (t : Ty) (d : D), t.Is d → t.cnt ≤ 1073741824 → tf 207 [.dg 2 d] t.dep := by
 refine Ty.ind fun k l ih d hd hc N Q hQ => ?_
 obtain ⟨a, es, c, rfl, hlen, hes⟩ := Ty.is_mk.1 hd
 simp only [Ty.cnt] at hc
 have hdl := rZ l
 refine p7 N _ Q fun _ => ⟨_, _, _, rfl, ?_⟩
 refine up hes hlen (fun i xs => ∀ (m : Nat) (N' : Nat), N ≤ N' → max m (ud xs) = ud l → yZ Q N m a es c es.length i N') ?_ ?_ 0 N (Nat.le_refl _) (by omega)
 ·intro i hlt _ m N' hN' hm
  refine w7 _ _ _ _ _ _ _ _ _ ?_
  simp only [ud] at hm
  repeat' first|with_reducible intro _|simp only[hlt,Y1,Y2,Y3,Y4]|(with_reducible first|refine X1 ?_ ?_|refine X2 ?_ ?_|refine X3 ?_ ?_|refine X4 ?_ ?_|refine X5 ?_ ?_|refine X6 ?_ ?_|refine X7 ?_ ?_|refine X8 ?_ ?_|refine X9 ?_ ?_)|refine⟨_,_,_,rfl,?_⟩|refine⟨_,rfl,?_⟩|((with_reducible refine And.intro ?_ ?_);·first|omega|trivial|(show _=_;rfl)|((with_reducible refine And.intro ?_ ?_)<;>first|omega|trivial|(show _=_;rfl)))|fail
  rw [i64_in _ (by omega)]
  exact Qi (hQ _ (by omega)) (by simp only [Ty.dep]; omega)
 ·intro i x xs hat _ ih2 m N' hN' hm
  have hb := hat.b
  have hxc := xn hat.m
  simp only [ud] at hm
  refine w7 _ _ _ _ _ _ _ _ _ ?_
  repeat' first|with_reducible intro _|simp only[hat.lt, hat.w, Int.toNat_natCast,Y1,Y2,Y3,Y4]|(with_reducible first|refine X1 ?_ ?_|refine X2 ?_ ?_|refine X3 ?_ ?_|refine X4 ?_ ?_|refine X5 ?_ ?_|refine X6 ?_ ?_|refine X7 ?_ ?_|refine X8 ?_ ?_|refine X9 ?_ ?_)|refine⟨_,_,_,rfl,?_⟩|refine⟨_,rfl,?_⟩|((with_reducible refine And.intro ?_ ?_);·first|omega|trivial|(show _=_;rfl)|((with_reducible refine And.intro ?_ ?_)<;>first|omega|trivial|(show _=_;rfl)))|refine (ih x hat.m _ hat.r (by omega)) _ _ ?_|fail
  have e : (if (x.dep : Int) > (m : Int) then (x.dep : Int) else (m : Int)) = ((max m x.dep : Nat) : Int) := by split <;> omega
  rw [e]
  exact ih2 _ _ (by omega) (by omega)
theorem zCi (t : Ty) (d : D) (hd : t.Is d) : wS 209 [.dg 2 d] (rr t.k t.as.length) := fun N Q hQ => by
 cases t with
 | mk k l =>
 obtain ⟨a, es, c, rfl, hlen, hes⟩ := Ty.is_mk.1 hd
 have hl := hes.len
 simp only [Ty.k, Ty.as] at hQ
 refine ru N _ Q fun _ => ?_
 cases hin : inB k 1 4 with
 | false =>
   repeat' first|with_reducible intro _|simp only[hin,Y1,Y2,Y3,Y4]|(with_reducible first|refine X1 ?_ ?_|refine X2 ?_ ?_|refine X3 ?_ ?_|refine X4 ?_ ?_|refine X5 ?_ ?_|refine X6 ?_ ?_|refine X7 ?_ ?_|refine X8 ?_ ?_|refine X9 ?_ ?_)|refine⟨_,_,_,rfl,?_⟩|refine⟨_,rfl,?_⟩|((with_reducible refine And.intro ?_ ?_);·first|omega|trivial|(show _=_;rfl)|((with_reducible refine And.intro ?_ ?_)<;>first|omega|trivial|(show _=_;rfl)))|refine (zq _ _ _) _ _ ?_|fail
   refine Qb (hQ _ (by omega)) ?_
   have : ¬ (1 ≤ k ∧ k ≤ 4) := fun h => by rw [yJ.2 h] at hin; cases hin
   unfold rr
   rw [if_neg (by omega), if_neg (by omega), if_neg (by omega)]
 | true =>
   have hb := yJ.1 hin
   have w0 : IntKind.i64.wrap 0 = 0 := rfl
   have w1 : IntKind.i64.wrap 1 = 1 := rfl
   have w2 : IntKind.i64.wrap 2 = 2 := rfl
   have w3 : IntKind.i64.wrap 3 = 3 := rfl
   have hk : k = 1 ∨ k = 2 ∨ k = 3 ∨ k = 4 := by omega
   rcases hk with rfl | rfl | rfl | rfl
   all_goals
    repeat' first|with_reducible intro _|simp only[hin, w0, w1, w2, w3,Y1,Y2,Y3,Y4]|(with_reducible first|refine X1 ?_ ?_|refine X2 ?_ ?_|refine X3 ?_ ?_|refine X4 ?_ ?_|refine X5 ?_ ?_|refine X6 ?_ ?_|refine X7 ?_ ?_|refine X8 ?_ ?_|refine X9 ?_ ?_)|refine⟨_,_,_,rfl,?_⟩|refine⟨_,rfl,?_⟩|((with_reducible refine And.intro ?_ ?_);·first|omega|trivial|(show _=_;rfl)|((with_reducible refine And.intro ?_ ?_)<;>first|omega|trivial|(show _=_;rfl)))|refine (zq _ _ _) _ _ ?_|fail
    refine Qb (hQ _ (by omega)) ?_
    simp [rr, hl]
theorem zCc : ∀ l : List Ty, uV l = !(l.any fun x => !x.form)
 | [] => rfl
 | t :: ts => by simp only [uV, List.any_cons, zCc ts]; cases t.form <;> simp
theorem zC2 {p : Ty → Bool} {l : List Ty} {es : List D} (h : All2 Ty.Is l es) (hlen : es.length ≤ 4611686018427387904) (ad : Addr) (hp : ∀ x ∈ l, ∀ d, x.Is d → wS 236 [.dg 2 d, .pd ad 0 (.fn 209 [])] (p x)) (a : Option Addr) (c : Nat) :
  wS 235 [.sv a 2 es c, .fn 236 [.pd ad 0 (.fn 209 [])]] (l.any p) := fun N Q hQ => by
 have hi : tf 240 [.sv a 2 es c, .fn 236 [.pd ad 0 (.fn 209 [])]] (zA9 p l 0) := fun N Q hQ => by
  refine vu N a es c ad Q fun _ => ?_
  refine up h hlen (fun i xs => ∀ (N' : Nat), N ≤ N' → (∀ N'', N' ≤ N'' → Q (zA9 p xs i) N'') → zr Q N a es c ad es.length i N') ?_ ?_ N (Nat.le_refl _) hQ
  ·intro i hlt _ N' hN' hQ'
   refine xT _ _ _ _ _ _ _ _ _ ?_
   repeat' first|with_reducible intro _|simp only[hlt,Y1,Y2,Y3,Y4]|(with_reducible first|refine X1 ?_ ?_|refine X2 ?_ ?_|refine X3 ?_ ?_|refine X4 ?_ ?_|refine X5 ?_ ?_|refine X6 ?_ ?_|refine X7 ?_ ?_|refine X8 ?_ ?_|refine X9 ?_ ?_)|refine⟨_,_,_,rfl,?_⟩|refine⟨_,rfl,?_⟩|((with_reducible refine And.intro ?_ ?_);·first|omega|trivial|(show _=_;rfl)|((with_reducible refine And.intro ?_ ?_)<;>first|omega|trivial|(show _=_;rfl)))|fail
   exact hQ' _ (by omega)
  ·intro i x xs hat _ ih2 N' hN' hQ'
   have hb := hat.b
   simp only [zA9] at hQ'
   refine xT _ _ _ _ _ _ _ _ _ ?_
   repeat' first|with_reducible intro _|simp only[hat.lt, hat.w, Int.toNat_natCast,Y1,Y2,Y3,Y4]|(with_reducible first|refine X1 ?_ ?_|refine X2 ?_ ?_|refine X3 ?_ ?_|refine X4 ?_ ?_|refine X5 ?_ ?_|refine X6 ?_ ?_|refine X7 ?_ ?_|refine X8 ?_ ?_|refine X9 ?_ ?_)|refine⟨_,_,_,rfl,?_⟩|refine⟨_,rfl,?_⟩|((with_reducible refine And.intro ?_ ?_);·first|omega|trivial|(show _=_;rfl)|((with_reducible refine And.intro ?_ ?_)<;>first|omega|trivial|(show _=_;rfl)))|refine (hp x hat.m _ hat.r) _ _ ?_|fail
   ·exact Qi (hQ' _ (by omega)) (by rw [if_pos (by assumption)])
   ·rename_i h; exact ih2 _ (by omega) fun N'' h2 => Qi (hQ' _ (by omega)) (by rw [h]; simp)
 refine wz N a es c ad Q fun _ => ?_
 repeat' first|with_reducible intro _|simp only[Y1,Y2,Y3,Y4]|(with_reducible first|refine X1 ?_ ?_|refine X2 ?_ ?_|refine X3 ?_ ?_|refine X4 ?_ ?_|refine X5 ?_ ?_|refine X6 ?_ ?_|refine X7 ?_ ?_|refine X8 ?_ ?_|refine X9 ?_ ?_)|refine⟨_,_,_,rfl,?_⟩|refine⟨_,rfl,?_⟩|((with_reducible refine And.intro ?_ ?_);·first|omega|trivial|(show _=_;rfl)|((with_reducible refine And.intro ?_ ?_)<;>first|omega|trivial|(show _=_;rfl)))|refine hi _ _ ?_|fail
 exact Qb (hQ _ (by omega)) (v9 _ l 0 (by omega)).symm
theorem zKt : ∀ (t : Ty) (d : D), t.Is d → wS 208 [.dg 2 d, .fn 209 []] t.form := by
 refine Ty.ind fun k l ih d hd N Q hQ => ?_
 have hd' := hd
 obtain ⟨a, es, c, rfl, hlen, hes⟩ := Ty.is_mk.1 hd
 refine pG N _ Q fun _ => ?_
 simp only [Ty.form, zCc] at hQ
 repeat' first|with_reducible intro _|simp only[Y1,Y2,Y3,Y4]|(with_reducible first|refine X1 ?_ ?_|refine X2 ?_ ?_|refine X3 ?_ ?_|refine X4 ?_ ?_|refine X5 ?_ ?_|refine X6 ?_ ?_|refine X7 ?_ ?_|refine X8 ?_ ?_|refine X9 ?_ ?_)|refine⟨_,_,_,rfl,?_⟩|refine⟨_,rfl,?_⟩|((with_reducible refine And.intro ?_ ?_);·first|omega|trivial|(show _=_;rfl)|((with_reducible refine And.intro ?_ ?_)<;>first|omega|trivial|(show _=_;rfl)))|refine (zCi _ _ hd') _ _ ?_|refine (zC2 hes hlen _ (fun x hx d hd => fun N Q hQ => ri N d _ Q fun _ N1 hN1 => ih x hx d hd N1 _ fun N2 hN2 hle N3 hN3 => hQ N3 (by omega)) _ _) _ _ ?_|fail
 ·have h : rr (Ty.mk k l).k (Ty.mk k l).as.length = true := by assumption
  exact Qb (hQ _ (by omega)) (by simp only [Ty.k, Ty.as] at h; rw [h, Bool.and_true])
 ·rename_i h _ _
  exact Qb (hQ _ (by omega)) (by simp only [Ty.k, Ty.as] at h; rw [h, Bool.and_false])
theorem xB (t : Ty) (d : D) (hd : t.Is d) (hc : t.cnt ≤ 1073741824) : wS 161 [.dg 2 d] t.valid := fun N Q hQ => by
 refine pu N _ Q fun _ => ?_
 repeat' first|with_reducible intro _|simp only[Y1,Y2,Y3,Y4]|(with_reducible first|refine X1 ?_ ?_|refine X2 ?_ ?_|refine X3 ?_ ?_|refine X4 ?_ ?_|refine X5 ?_ ?_|refine X6 ?_ ?_|refine X7 ?_ ?_|refine X8 ?_ ?_|refine X9 ?_ ?_)|refine⟨_,_,_,rfl,?_⟩|refine⟨_,rfl,?_⟩|((with_reducible refine And.intro ?_ ?_);·first|omega|trivial|(show _=_;rfl)|((with_reducible refine And.intro ?_ ?_)<;>first|omega|trivial|(show _=_;rfl)))|refine (zAi t d hd hc) _ _ ?_|refine (qp t d hd hc) _ _ ?_|refine (zKt t d hd) _ _ ?_|fail
 ·refine Qb (hQ _ (by omega)) ?_
  have h1 : t.cnt ≤ 30 := by omega
  have h2 : t.dep ≤ 8 := by omega
  simp [Ty.valid, *]
 ·refine Qb (hQ _ (by omega)) ?_
  have h2 : ¬ t.dep ≤ 8 := by omega
  simp [Ty.valid, *]
 ·refine Qb (hQ _ (by omega)) ?_
  have h1 : ¬ t.cnt ≤ 30 := by omega
  simp [Ty.valid, *]
theorem zV : ∀ (t u : Ty) (d e : D), t.Is d → u.Is e → wS 130 [.dg 2 d, .dg 2 e] (uP t u) := by
 refine Ty.ind fun k l ih u d e hd he N Q hQ => ?_
 cases u with
 | mk k' l' =>
 obtain ⟨a, es, c, rfl, hlen, hes⟩ := Ty.is_mk.1 hd
 obtain ⟨a', es', c', rfl, hlen', hes'⟩ := Ty.is_mk.1 he
 have hl := hes.len
 have hl' := hes'.len
 simp only [uP] at hQ
 have hf : wS 171 [.sv a 2 es c, .sv a' 2 es' c', .fn 130 []] (wv l l') := fun N Q hQ => by
  have key : l.length = l'.length → ∀ (N' : Nat), N ≤ N' → (∀ N'', N' ≤ N'' → Q (wv l (l'.drop 0)) N'') → zS Q N a' es' c' a es c es.length (0 : Nat) N' := by
   intro hll
   refine up hes hlen (fun i xs => ∀ (N' : Nat), N ≤ N' → (∀ N'', N' ≤ N'' → Q (wv xs (l'.drop i)) N'') → zS Q N a' es' c' a es c es.length i N') ?_ ?_
   ·intro i hlt hi N' hN' hQ'
    refine xY _ _ _ _ _ _ _ _ _ _ _ ?_
    repeat' first|with_reducible intro _|simp only[hlt,Y1,Y2,Y3,Y4]|(with_reducible first|refine X1 ?_ ?_|refine X2 ?_ ?_|refine X3 ?_ ?_|refine X4 ?_ ?_|refine X5 ?_ ?_|refine X6 ?_ ?_|refine X7 ?_ ?_|refine X8 ?_ ?_|refine X9 ?_ ?_)|refine⟨_,_,_,rfl,?_⟩|refine⟨_,rfl,?_⟩|((with_reducible refine And.intro ?_ ?_);·first|omega|trivial|(show _=_;rfl)|((with_reducible refine And.intro ?_ ?_)<;>first|omega|trivial|(show _=_;rfl)))|fail
    refine Qb (hQ' _ (by assumption)) ?_
    rw [List.drop_eq_nil_of_le (by omega)]
    rfl
   ·intro i x xs hat _ ih2 N' hN' hQ'
    have hb := hat.b
    have hi' : i < l'.length := by omega
    have hg : l'[i]? = some l'[i] := List.getElem?_eq_getElem hi'
    have hd' : l'.drop i = l'[i] :: l'.drop (i + 1) := List.drop_eq_getElem_cons hi'
    refine xY _ _ _ _ _ _ _ _ _ _ _ ?_
    rw [hd'] at hQ'
    repeat' first|with_reducible intro _|simp only[hat.lt, hat.w, Int.toNat_natCast,Y1,Y2,Y3,Y4]|(with_reducible first|refine X1 ?_ ?_|refine X2 ?_ ?_|refine X3 ?_ ?_|refine X4 ?_ ?_|refine X5 ?_ ?_|refine X6 ?_ ?_|refine X7 ?_ ?_|refine X8 ?_ ?_|refine X9 ?_ ?_)|refine⟨_,_,_,rfl,?_⟩|refine⟨_,rfl,?_⟩|((with_reducible refine And.intro ?_ ?_);·first|omega|trivial|(show _=_;rfl)|((with_reducible refine And.intro ?_ ?_)<;>first|omega|trivial|(show _=_;rfl)))|refine (ih x hat.m _ _ _ hat.r (hes'.get hg)) _ _ ?_|fail
    ·exact Qb (hQ' _ (by omega)) (by simp [wv, *])
    ·exact ih2 _ (by omega) fun N'' h => Qb (hQ' N'' (by omega)) (by simp [wv, *])
  refine vo N _ _ _ _ _ _ Q fun _ _ => ?_
  repeat' first|with_reducible intro _|simp only[Y1,Y2,Y3,Y4]|(with_reducible first|refine X1 ?_ ?_|refine X2 ?_ ?_|refine X3 ?_ ?_|refine X4 ?_ ?_|refine X5 ?_ ?_|refine X6 ?_ ?_|refine X7 ?_ ?_|refine X8 ?_ ?_|refine X9 ?_ ?_)|refine⟨_,_,_,rfl,?_⟩|refine⟨_,rfl,?_⟩|((with_reducible refine And.intro ?_ ?_);·first|omega|trivial|(show _=_;rfl)|((with_reducible refine And.intro ?_ ?_)<;>first|omega|trivial|(show _=_;rfl)))|fail
  ·exact Qb (hQ _ (by assumption)) (pK (by omega))
  ·exact key (by omega) N (Nat.le_refl _) hQ
 refine zBr N _ _ Q fun _ _ => ?_
 repeat' first|with_reducible intro _|simp only[Y1,Y2,Y3,Y4]|(with_reducible first|refine X1 ?_ ?_|refine X2 ?_ ?_|refine X3 ?_ ?_|refine X4 ?_ ?_|refine X5 ?_ ?_|refine X6 ?_ ?_|refine X7 ?_ ?_|refine X8 ?_ ?_|refine X9 ?_ ?_)|refine⟨_,_,_,rfl,?_⟩|refine⟨_,rfl,?_⟩|((with_reducible refine And.intro ?_ ?_);·first|omega|trivial|(show _=_;rfl)|((with_reducible refine And.intro ?_ ?_)<;>first|omega|trivial|(show _=_;rfl)))|refine hf _ _ ?_|fail
 ·exact Qb (hQ _ (by omega)) (by simp [*])
 ·exact Qb (hQ _ (by omega)) (by simp [*])
theorem tc (t : Ty) (d : D) (hd : t.Is d) : wS 144 [.dg 2 d] t.base := fun N Q hQ => by
 cases t with
 | mk k l =>
 obtain ⟨a, es, c, rfl, hlen, hes⟩ := Ty.is_mk.1 hd
 have hl := hes.len
 have hin : inB k 1 2 = (k == 1 || k == 2) := by
  rw [Bool.eq_iff_iff, yJ]
  simp
  omega
 refine zGT N _ Q fun _ => ?_
 repeat' first|with_reducible intro _|simp only[Y1,Y2,Y3,Y4]|(with_reducible first|refine X1 ?_ ?_|refine X2 ?_ ?_|refine X3 ?_ ?_|refine X4 ?_ ?_|refine X5 ?_ ?_|refine X6 ?_ ?_|refine X7 ?_ ?_|refine X8 ?_ ?_|refine X9 ?_ ?_)|refine⟨_,_,_,rfl,?_⟩|refine⟨_,rfl,?_⟩|((with_reducible refine And.intro ?_ ?_);·first|omega|trivial|(show _=_;rfl)|((with_reducible refine And.intro ?_ ?_)<;>first|omega|trivial|(show _=_;rfl)))|refine (zq _ _ _) _ _ ?_|fail
 all_goals (rename_i h _ _; rw [hin] at h; exact Qb (hQ _ (by omega)) (by simp only [Ty.base, Ty.k, Ty.as, h, hl]; simp))
end Go.Proofs.YtfkmegifjiiclaaGreat
