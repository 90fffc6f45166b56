/- Terms and typings as plain data; well-formed terms and contexts: the reference's functions. -/
import Derived.Test.YtfkmegifjiiclaaGreatVf
set_option linter.unusedVariables false
set_option linter.unusedSimpArgs false
namespace Go.Proofs.YtfkmegifjiiclaaGreat
open Go Go.Proofs Go.Proofs.Tryz Go.IntWalk

inductive Tm where
 | mk (k : Int) (nm ot : ByteArray) (n : Int) (ty re : Ty) (l : List Tm)

/-- the cells of a term ahead of its parts -/
structure Tm.Hd (nm ot : ByteArray) (ty re : Ty) (t0 t1 r0 r1 : D) : Prop where
 nm : nm.size ≤ 4611686018427387904
 ot : ot.size ≤ 4611686018427387904
 ty : ty.Is (.ag [t0, t1])
 re : re.Is (.ag [r0, r1])
mutual
def Tm.Is : Tm → D → Prop
 | .mk k nm ot n ty re l, d => ∃ t0 t1 r0 r1 a es c, d = .ag [.lit (.int .i64 k), .lit (.string nm), .lit (.string ot), .lit (.int .i64 n), t0, t1, r0, r1, .sl a 9 es c] ∧ Tm.Hd nm ot ty re t0 t1 r0 r1 ∧ es.length ≤ 4611686018427387904 ∧ zBf l es
def zBf : List Tm → List D → Prop
 | [], es => es = []
 | t :: ts, es => ∃ d ds, es = d :: ds ∧ t.Is d ∧ zBf ts ds
end
theorem tX : ∀ {l : List Tm} {es : List D}, zBf l es ↔ All2 Tm.Is l es
 | [], es => by simp only [zBf, All2]
 | t :: ts, es => by
   simp only [zBf, All2]
   exact ⟨fun ⟨d, ds, h1, h2, h3⟩ => ⟨d, ds, h1, h2, tX.1 h3⟩, fun ⟨d, ds, h1, h2, h3⟩ => ⟨d, ds, h1, h2, tX.2 h3⟩⟩
theorem Tm.is_mk {k : Int} {nm ot : ByteArray} {n : Int} {ty re : Ty} {l : List Tm} {d : D} : (Tm.mk k nm ot n ty re l).Is d ↔
  ∃ t0 t1 r0 r1 a es c, d = .ag [.lit (.int .i64 k), .lit (.string nm), .lit (.string ot), .lit (.int .i64 n), t0, t1, r0, r1, .sl a 9 es c] ∧ Tm.Hd nm ot ty re t0 t1 r0 r1 ∧ es.length ≤ 4611686018427387904 ∧ All2 Tm.Is l es := by
 simp only [Tm.Is, tX]
theorem Tm.ind {P : Tm → Prop} (h : ∀ k nm ot n ty re l, (∀ t ∈ l, P t) → P (.mk k nm ot n ty re l)) : ∀ t, P t := fun t =>
 Tm.rec (motive_1 := P) (motive_2 := fun l => ∀ t ∈ l, P t) (fun k nm ot n ty re l ih => h k nm ot n ty re l ih) (by simp) (fun t l h1 h2 u hu => by
  rcases List.mem_cons.1 hu with rfl | hu
  ·exact h1
  ·exact h2 u hu) t
mutual
def Tm.cnt : Tm → Nat
 | .mk _ _ _ _ ty re l => 1 + ty.cnt + re.cnt + zJ l
def zJ : List Tm → Nat
 | [] => 0
 | t :: ts => t.cnt + zJ ts
end
theorem zR : ∀ {l : List Tm} {t : Tm}, t ∈ l → t.cnt ≤ zJ l
 | u :: us, t, h => by
   simp only [zJ]
   rcases List.mem_cons.1 h with rfl | h
   ·omega
   ·have := zR h; omega
theorem yT : ∀ l : List Tm, l.length ≤ zJ l
 | [] => Nat.le_refl _
 | .mk _ _ _ _ _ _ _ :: ts => by simp only [zJ, Tm.cnt, List.length_cons]; have := yT ts; omega

structure Tg where
 nm : ByteArray
 ty : Ty
 lv : Int
def Tg.Is (g : Tg) (d : D) : Prop := ∃ t0 t1, d = .ag [.lit (.string g.nm), t0, t1, .lit (.int .i64 g.lv)] ∧ g.nm.size ≤ 4611686018427387904 ∧ g.ty.Is (.ag [t0, t1])
theorem Tg.is_mk {nm : ByteArray} {ty : Ty} {lv : Int} {d : D} : (Tg.mk nm ty lv).Is d ↔ ∃ t0 t1, d = .ag [.lit (.string nm), t0, t1, .lit (.int .i64 lv)] ∧ nm.size ≤ 4611686018427387904 ∧ ty.Is (.ag [t0, t1]) := Iff.rfl

def zIx (s : ByteArray) : Int := if s = bytes [43] then 2 else if s = bytes [45] then 2 else if s = bytes [42] then 2 else if s = bytes [61] then 2 else if s = bytes [60] then 2 else if s = bytes [38] then 2 else if s = bytes [124] then 2 else if s = bytes [33] then 1 else 0
theorem qP (s : ByteArray) : tf 221 [.str s] (zIx s) := fun N Q hQ => by
 refine zDi N s Q ?_
 repeat' first|with_reducible intro _|simp only[Y1,Y2,Y3,Y4]|(with_reducible first|refine X1 ?_ ?_|refine X2 ?_ ?_|refine X3 ?_ ?_|refine X4 ?_ ?_|refine X5 ?_ ?_|refine X6 ?_ ?_|refine X7 ?_ ?_|refine X8 ?_ ?_|refine X9 ?_ ?_)|refine⟨_,_,_,rfl,?_⟩|refine⟨_,rfl,?_⟩|((with_reducible refine And.intro ?_ ?_);·first|omega|trivial|(show _=_;rfl)|((with_reducible refine And.intro ?_ ?_)<;>first|omega|trivial|(show _=_;rfl)))|fail
 all_goals (refine Qi (hQ _ (by assumption)) ?_; unfold zIx; (repeat' split) <;> first | rfl | contradiction)
def Ty.zero (t : Ty) : Bool := t.k == 0 && (t.as.length : Int) == 0
theorem p9 (t : Ty) (d : D) (hd : t.Is d) : wS 219 [.dg 2 d] t.zero := fun N Q hQ => by
 cases t with
 | mk k l =>
 obtain ⟨a, es, c, rfl, hlen, hes⟩ := Ty.is_mk.1 hd
 have hl := hes.len
 refine zF3 N _ Q fun _ => ?_
 repeat' first|with_reducible intro _|simp only[Y1,Y2,Y3,Y4]|(with_reducible first|refine X1 ?_ ?_|refine X2 ?_ ?_|refine X3 ?_ ?_|refine X4 ?_ ?_|refine X5 ?_ ?_|refine X6 ?_ ?_|refine X7 ?_ ?_|refine X8 ?_ ?_|refine X9 ?_ ?_)|refine⟨_,_,_,rfl,?_⟩|refine⟨_,rfl,?_⟩|((with_reducible refine And.intro ?_ ?_);·first|omega|trivial|(show _=_;rfl)|((with_reducible refine And.intro ?_ ?_)<;>first|omega|trivial|(show _=_;rfl)))|fail
 all_goals refine Qb (hQ _ (by assumption)) ?_
 all_goals simp [Ty.zero, Ty.k, Ty.as, hl, *]
def sq (k : Int) (nm ot : ByteArray) : Bool :=
 if k = 4 then decide (zIx nm > 0) && decide (ot = bytes []) else if k = 1 ∨ k = 6 ∨ k = 8 then ul nm && decide (ot = bytes []) else if k = 9 then ul nm && (ul ot && !decide (nm = ot)) else decide (nm = bytes []) && decide (ot = bytes [])
theorem zP4 (a b : Int) : (a == b) = decide (a = b) := by rw [Bool.eq_iff_iff]; simp
def zBP (k : Int) : Bool := k == 6 || k == 9
def yF (k : Int) (nm ot : ByteArray) (n : Int) (ty re : Ty) : Bool :=
 (zBP k == ty.valid) && ((zBP k || ty.zero) && (((k == 9) == re.valid) && ((k == 9 || re.zero) && (inB n 0 (if k = 2 then 10006 else if k = 3 then 1 else 0) && sq k nm ot))))
def r8 (k : Int) (nm : ByteArray) : Int :=
 if k = 1 ∨ k = 2 ∨ k = 3 then 0 else if k = 4 then zIx nm else if k = 6 ∨ k = 9 ∨ k = 10 ∨ k = 11 ∨ k = 12 ∨ k = 13 then 1 else if k = 7 ∨ k = 8 then 2 else if k = 5 then 3 else -1
mutual
def Tm.ok : Tm → Bool
 | .mk k nm ot n ty re l => zEL l && (yF k nm ot n ty re && (l.length : Int) == r8 k nm)
def zEL : List Tm → Bool
 | [] => true
 | t :: ts => t.ok && zEL ts
end
theorem zDt {k n : Int} {nm ot : ByteArray} {ty re : Ty} {t0 t1 r0 r1 x : D} (h : Tm.Hd nm ot ty re t0 t1 r0 r1) : wS 220 [.dg 9 (.ag [.lit (.int .i64 k), .lit (.string nm), .lit (.string ot), .lit (.int .i64 n), t0, t1, r0, r1, x])] (sq k nm ot) := fun N Q hQ => by
 refine zDj N _ Q fun _ => ?_
 repeat' first|with_reducible intro _|simp only[Y1,Y2,Y3,Y4]|(with_reducible first|refine X1 ?_ ?_|refine X2 ?_ ?_|refine X3 ?_ ?_|refine X4 ?_ ?_|refine X5 ?_ ?_|refine X6 ?_ ?_|refine X7 ?_ ?_|refine X8 ?_ ?_|refine X9 ?_ ?_)|refine⟨_,_,_,rfl,?_⟩|refine⟨_,rfl,?_⟩|((with_reducible refine And.intro ?_ ?_);·first|omega|trivial|(show _=_;rfl)|((with_reducible refine And.intro ?_ ?_)<;>first|omega|trivial|(show _=_;rfl)))|refine (qP _) _ _ ?_|refine (tq _ h.nm) _ _ ?_|refine (tq _ h.ot) _ _ ?_|fail
 all_goals (refine Qb (hQ _ (by omega)) ?_; simp [sq, zB8, *])
theorem zCt {k n : Int} {nm ot : ByteArray} {ty re : Ty} {t0 t1 r0 r1 x : D} (h : Tm.Hd nm ot ty re t0 t1 r0 r1) (hc : ty.cnt ≤ 1073741824) (hc2 : re.cnt ≤ 1073741824) :
  wS 175 [.dg 9 (.ag [.lit (.int .i64 k), .lit (.string nm), .lit (.string ot), .lit (.int .i64 n), t0, t1, r0, r1, x])] (yF k nm ot n ty re) := fun N Q hQ => by
 refine zDV N _ Q fun _ => ?_
 repeat' first|with_reducible intro _|simp only[Y1,Y2,Y3,Y4]|(with_reducible first|refine X1 ?_ ?_|refine X2 ?_ ?_|refine X3 ?_ ?_|refine X4 ?_ ?_|refine X5 ?_ ?_|refine X6 ?_ ?_|refine X7 ?_ ?_|refine X8 ?_ ?_|refine X9 ?_ ?_)|refine⟨_,_,_,rfl,?_⟩|refine⟨_,rfl,?_⟩|((with_reducible refine And.intro ?_ ?_);·first|omega|trivial|(show _=_;rfl)|((with_reducible refine And.intro ?_ ?_)<;>first|omega|trivial|(show _=_;rfl)))|refine (y8 _ _ h.ty hc) _ _ ?_|refine (y8 _ _ h.re hc2) _ _ ?_|refine (p9 _ _ h.ty) _ _ ?_|refine (p9 _ _ h.re) _ _ ?_|refine (xm _ _ _) _ _ ?_|refine (zDt h) _ _ ?_|fail
 all_goals first | (exfalso; omega) | (refine Qb (hQ _ (by omega)) ?_; simp [yF, zBP, *]; done) | (refine Qb (hQ _ (by omega)) ?_; simp_all [yF, zBP]; done) | (refine Qb (hQ _ (by omega)) ?_; simp_all only [yF, zBP, zP4]; simp_all; done)
theorem zDh {k n : Int} {nm ot : ByteArray} {t0 t1 r0 r1 x : D} : tf 176 [.dg 9 (.ag [.lit (.int .i64 k), .lit (.string nm), .lit (.string ot), .lit (.int .i64 n), t0, t1, r0, r1, x])] (r8 k nm) := fun N Q hQ => by
 refine zDy N _ Q fun _ => ?_
 repeat' first|with_reducible intro _|simp only[Y1,Y2,Y3,Y4]|(with_reducible first|refine X1 ?_ ?_|refine X2 ?_ ?_|refine X3 ?_ ?_|refine X4 ?_ ?_|refine X5 ?_ ?_|refine X6 ?_ ?_|refine X7 ?_ ?_|refine X8 ?_ ?_|refine X9 ?_ ?_)|refine⟨_,_,_,rfl,?_⟩|refine⟨_,rfl,?_⟩|((with_reducible refine And.intro ?_ ?_);·first|omega|trivial|(show _=_;rfl)|((with_reducible refine And.intro ?_ ?_)<;>first|omega|trivial|(show _=_;rfl)))|refine (qP _) _ _ ?_|fail
 all_goals (refine Qi (hQ _ (by omega)) ?_; simp [r8, *])
theorem zGW : ∀ (t : Tm) (d : D), t.Is d → t.cnt ≤ 1073741824 → wS 139 [.dg 9 d] t.ok := by
 refine Tm.ind fun k nm ot n ty re l ih d hd hc N Q hQ => ?_
 obtain ⟨t0, t1, r0, r1, a, es, c, rfl, hh, hlen, hes⟩ := Tm.is_mk.1 hd
 have hl := hes.len
 simp only [Tm.cnt] at hc
 refine zFP N _ Q fun _ => ?_
 have key := up hes hlen (fun i xs => ∀ (N' : Nat), N ≤ N' → (∀ N'', N' ≤ N'' → Q (zEL xs && (yF k nm ot n ty re && (l.length : Int) == r8 k nm)) N'') → x9 Q N i (.ag [.lit (.int .i64 k), .lit (.string nm), .lit (.string ot), .lit (.int .i64 n), t0, t1, r0, r1, .sl a 9 es c]) N') ?_ ?_
 ·exact key N (Nat.le_refl _) hQ
 ·intro i hlt _ N' hN' hQ'
  refine sZ _ _ _ _ _ ?_
  repeat' first|with_reducible intro _|simp only[hlt,Y1,Y2,Y3,Y4]|(with_reducible first|refine X1 ?_ ?_|refine X2 ?_ ?_|refine X3 ?_ ?_|refine X4 ?_ ?_|refine X5 ?_ ?_|refine X6 ?_ ?_|refine X7 ?_ ?_|refine X8 ?_ ?_|refine X9 ?_ ?_)|refine⟨_,_,_,rfl,?_⟩|refine⟨_,rfl,?_⟩|((with_reducible refine And.intro ?_ ?_);·first|omega|trivial|(show _=_;rfl)|((with_reducible refine And.intro ?_ ?_)<;>first|omega|trivial|(show _=_;rfl)))|refine (zCt hh (by omega) (by omega)) _ _ ?_|refine zDh _ _ ?_|fail
  all_goals (refine Qb (hQ' _ (by omega)) ?_; simp [zEL, *])
 ·intro i x xs hat _ ih2 N' hN' hQ'
  have hb := hat.b
  have hxc := zR hat.m
  refine sZ _ _ _ _ _ ?_
  repeat' first|with_reducible intro _|simp only[hat.lt, hat.w, Int.toNat_natCast,Y1,Y2,Y3,Y4]|(with_reducible first|refine X1 ?_ ?_|refine X2 ?_ ?_|refine X3 ?_ ?_|refine X4 ?_ ?_|refine X5 ?_ ?_|refine X6 ?_ ?_|refine X7 ?_ ?_|refine X8 ?_ ?_|refine X9 ?_ ?_)|refine⟨_,_,_,rfl,?_⟩|refine⟨_,rfl,?_⟩|((with_reducible refine And.intro ?_ ?_);·first|omega|trivial|(show _=_;rfl)|((with_reducible refine And.intro ?_ ?_)<;>first|omega|trivial|(show _=_;rfl)))|refine (ih x hat.m _ hat.r (by omega)) _ _ ?_|fail
  ·refine Qb (hQ' _ (by omega)) ?_; simp [zEL, *]
  ·exact ih2 _ (by omega) fun N'' h => Qb (hQ' N'' (by omega)) (by simp [zEL, *])
end Go.Proofs.YtfkmegifjiiclaaGreat

/- Levels and contexts: the reference's functions. -/
set_option linter.unusedVariables false
set_option linter.unusedSimpArgs false
namespace Go.Proofs.YtfkmegifjiiclaaGreat
open Go Go.Proofs Go.Proofs.Tryz Go.IntWalk

theorem yJ {n a b : Int} : inB n a b = true ↔ a ≤ n ∧ n ≤ b := by simp [inB]
def zu (k n : Int) : Int := if k = 10 then n + 1 else if k = 11 then n - 1 else n
mutual
def Tm.lev : Tm → Int → Bool
 | .mk k _ _ _ _ _ l, n => inB n 0 2 && qI l (zu k n)
def qI : List Tm → Int → Bool
 | [], _ => true
 | t :: ts, n => t.lev n && qI ts n
end
theorem pC {k n m : Int} {c1 c2 c4 c5 c6 c7 c8 : D} (h : 0 ≤ m ∧ m ≤ 2) : tf 224 [.dg 9 (.ag [.lit (.int .i64 k), c1, c2, .lit (.int .i64 n), c4, c5, c6, c7, c8]), .int .i64 m] (zu k m) := fun N Q hQ => by
 refine zGZ N _ m Q fun _ => ?_
 rw [i64_in (m + 1) (by omega), i64_in (m - 1) (by omega)]
 repeat' first|with_reducible intro _|simp only[Y1,Y2,Y3,Y4]|(with_reducible first|refine X1 ?_ ?_|refine X2 ?_ ?_|refine X3 ?_ ?_|refine X4 ?_ ?_|refine X5 ?_ ?_|refine X6 ?_ ?_|refine X7 ?_ ?_|refine X8 ?_ ?_|refine X9 ?_ ?_)|refine⟨_,_,_,rfl,?_⟩|refine⟨_,rfl,?_⟩|((with_reducible refine And.intro ?_ ?_);·first|omega|trivial|(show _=_;rfl)|((with_reducible refine And.intro ?_ ?_)<;>first|omega|trivial|(show _=_;rfl)))|fail
 all_goals (refine Qi (hQ _ (by omega)) ?_; simp [zu, *])
def zJC (t : Tm) (n : Int) : Bool := t.ok && t.lev n
structure Ctx (g : List Tg) (es : List D) : Prop where
 len : es.length ≤ 4611686018427387904
 all : All2 Tg.Is g es
def Tg.ok (g : Tg) : Bool := ul g.nm && (g.ty.valid && inB g.lv 0 2)
def zHP : List Tg → Bool
 | [] => true
 | g :: gs => g.ok && zHP gs
def zGf (g : List Tg) : Bool := zHP g && decide ((g.length : Int) ≤ 12)
def tg0 : Tg := ⟨bytes [], tZero, 0⟩
def ve (g : List Tg) (s : ByteArray) : Nat → Int
 | 0 => -1
 | k + 1 => if (g.getD k tg0).nm = s then k else ve g s k
def yB (g : List Tg) (s : ByteArray) : Int := ve g s g.length
theorem zCR (g : List Tg) (s : ByteArray) : ∀ n : Nat, ve g s n = -1 ∨ (0 ≤ ve g s n ∧ ve g s n < n)
 | 0 => .inl rfl
 | n + 1 => by
   simp only [ve]
   split
   ·exact .inr (by omega)
   ·rcases zCR g s n with h | h
    ·exact .inl h
    ·exact .inr (by omega)
theorem zQf {α : Type} {R : α → D → Prop} {l : List α} {es : List D} (h : All2 R l es) (hlen : es.length ≤ 4611686018427387904) (P : Int → Prop) (h0 : P (-1))
  (hs : ∀ (i : Nat) x, At R l es i x → decide ((i : Int) ≥ 0) = true → IntKind.i64.wrap ((i : Int) - 1) = (i : Int) - 1 → P ((i : Int) - 1) → P i) : P ((es.length : Int) - 1) := by
 have hl := h.len
 have key : ∀ n : Nat, n ≤ l.length → P ((n : Int) - 1) := by
  intro n
  induction n with
  | zero => intro _; exact h0
  | succ n ih =>
    intro hn
    have hg : l[n]? = some l[n] := List.getElem?_eq_getElem hn
    have e : ((n + 1 : Nat) : Int) - 1 = n := by omega
    rw [e]
    exact hs n _ ⟨decide_eq_true (by omega), ⟨by omega, by omega⟩, by rw [i64_in _ (by omega)]; simp, h.get hg, List.getElem_mem hn, hg⟩ (decide_eq_true (by omega)) (i64_in _ (by omega)) (ih (by omega))
 rw [hl]
 exact key _ (Nat.le_refl _)
theorem zFf {α : Type} {l : List α} {i : Nat} {x d : α} (h : l[i]? = some x) : l.getD i d = x := by simp [List.getD_eq_getElem?_getD, h]
theorem tZ {g : List Tg} {es : List D} (h : Ctx g es) (a : Option Addr) (c : Nat) (s : ByteArray) : tf 177 [.sv a 4 es c, .str s] (yB g s) := fun N Q hQ => by
 have hl := h.all.len
 have h1 := h.len
 refine zG3 N a es c s Q fun _ => ?_
 have key := zQf h.all h.len (fun m => ∀ (N' : Nat), N ≤ N' → (∀ N'', N' ≤ N'' → Q (ve g s (m + 1).toNat) N'') → wG Q N a es c s m N') ?_ ?_
 ·rw [i64_in _ (by omega)]
  exact key N (Nat.le_refl _) fun N' hN' => Qi (hQ N' hN') (by rw [yB, ← hl]; congr 1; omega)
 ·intro N' hN' hQ'
  refine sa _ _ _ _ _ _ _ _ ?_
  repeat' first|with_reducible intro _|simp only[Y1,Y2,Y3,Y4]|(with_reducible first|refine X1 ?_ ?_|refine X2 ?_ ?_|refine X3 ?_ ?_|refine X4 ?_ ?_|refine X5 ?_ ?_|refine X6 ?_ ?_|refine X7 ?_ ?_|refine X8 ?_ ?_|refine X9 ?_ ?_)|refine⟨_,_,_,rfl,?_⟩|refine⟨_,rfl,?_⟩|((with_reducible refine And.intro ?_ ?_);·first|omega|trivial|(show _=_;rfl)|((with_reducible refine And.intro ?_ ?_)<;>first|omega|trivial|(show _=_;rfl)))|fail
  ·omega
  ·exact hQ' _ (by assumption)
 ·intro i x hat hge hw ih N' hN' hQ'
  have hb := hat.b
  obtain ⟨t0, t1, hd, hs, ht⟩ := hat.r
  have e1 : ((i : Int) + 1).toNat = i + 1 := by omega
  have e2 : ((i : Int) - 1 + 1).toNat = i := by omega
  rw [e1] at hQ'
  simp only [ve, zFf hat.g] at hQ'
  rw [e2] at ih
  refine sa _ _ _ _ _ _ _ _ ?_
  repeat' first|with_reducible intro _|simp only[hge, hw, Int.toNat_natCast, hd,Y1,Y2,Y3,Y4]|(with_reducible first|refine X1 ?_ ?_|refine X2 ?_ ?_|refine X3 ?_ ?_|refine X4 ?_ ?_|refine X5 ?_ ?_|refine X6 ?_ ?_|refine X7 ?_ ?_|refine X8 ?_ ?_|refine X9 ?_ ?_)|refine⟨_,_,_,rfl,?_⟩|refine⟨_,rfl,?_⟩|((with_reducible refine And.intro ?_ ?_);·first|omega|trivial|(show _=_;rfl)|((with_reducible refine And.intro ?_ ?_)<;>first|omega|trivial|(show _=_;rfl)))|fail
  ·rename_i hx _ _; exact Qi (hQ' _ (by omega)) (by rw [if_pos hx])
  ·rename_i hx; exact ih _ (by omega) fun N'' h => Qi (hQ' N'' (by omega)) (by rw [if_neg hx])
end Go.Proofs.YtfkmegifjiiclaaGreat

/- Contexts that are made, types of forms: the reference's functions. -/
set_option linter.unusedVariables false
set_option linter.unusedSimpArgs false
namespace Go.Proofs.YtfkmegifjiiclaaGreat
open Go Go.Proofs Go.Proofs.Tryz Go.IntWalk

theorem Ty.is_cells {t : Ty} {d : D} (h : t.Is d) : t.Is (.ag [D.cell d 0, D.cell d 1]) := by
 cases t with
 | mk k l => obtain ⟨a, es, c, rfl, _, _⟩ := Ty.is_mk.1 h; exact h
def zC9 (g : List Tg) (n : Int) (x : Tg) (i : Nat) : Bool := x.ty.base && (decide (x.lv ≤ n) && decide (yB g x.nm = (i : Int)))
def uf (g : List Tg) (n : Int) : List Tg → Nat → List Tg
 | [], _ => []
 | x :: xs, i => if zC9 g n x i then x :: uf g n xs (i + 1) else uf g n xs (i + 1)
def uX (g : List Tg) (n : Int) : List Tg := uf g n g 0
theorem zAt (g : List Tg) (n : Int) : ∀ (l : List Tg) (i : Nat), (∀ x ∈ uf g n l i, x ∈ l) ∧ (uf g n l i).length ≤ l.length
 | [], i => by simp [uf]
 | x :: xs, i => by
   have h := zAt g n xs (i + 1)
   simp only [uf]
   split
   ·refine ⟨fun y hy => ?_, by simp; exact h.2⟩
    rcases List.mem_cons.1 hy with rfl | hy
    ·exact List.mem_cons_self
    ·exact List.mem_cons_of_mem _ (h.1 y hy)
   ·exact ⟨fun y hy => List.mem_cons_of_mem _ (h.1 y hy), by have := h.2; simp; omega⟩
theorem qT {g : List Tg} {es : List D} (h : Ctx g es) (hg : g.length ≤ 1073741824) (hc : ∀ x ∈ g, x.ty.cnt ≤ 1073741824) (a : Option Addr) (c : Nat) (n : Int) :
  ∀ (N : Nat) (Q : QT [.sl 4]), (∀ a' es' c' N', N ≤ N' → Ctx (uX g n) es' → Q a' es' c' N') → ACalls prog 223 [.sl 4] [.sv a 4 es c, .int .i64 n] N Q := fun N Q hQ => by
 have hl := h.all.len
 refine zEi N a es c n Q fun _ => ?_
 have key := up h.all h.len (fun i xs => ∀ (r : List D) (m q : Nat) (N' : Nat) (done : List Tg), N ≤ N' → m = r.length → All2 Tg.Is done r → done.length ≤ i → done ++ uf g n xs i = uX g n → z4 Q N a es c n m q i r q N') ?_ ?_
 ·exact key [] 0 0 N [] (Nat.le_refl _) rfl rfl (Nat.le_refl _) rfl
 ·intro i hlt hi r m q N' done hN' hm hr hdl hd
  refine t7 _ _ _ _ _ _ _ _ _ _ _ _ ?_
  repeat' first|with_reducible intro _|simp only[hlt,Y1,Y2,Y3,Y4]|(with_reducible first|refine X1 ?_ ?_|refine X2 ?_ ?_|refine X3 ?_ ?_|refine X4 ?_ ?_|refine X5 ?_ ?_|refine X6 ?_ ?_|refine X7 ?_ ?_|refine X8 ?_ ?_|refine X9 ?_ ?_)|refine⟨_,_,_,rfl,?_⟩|refine⟨_,rfl,?_⟩|((with_reducible refine And.intro ?_ ?_);·first|omega|trivial|(show _=_;rfl)|((with_reducible refine And.intro ?_ ?_)<;>first|omega|trivial|(show _=_;rfl)))|fail
  refine hQ _ _ _ _ (by omega) ⟨by have := hr.len; omega, ?_⟩
  simp only [uf, List.append_nil] at hd
  rwa [← hd]
 ·intro i x xs hat _ ih2 r m q N' done hN' hm hr hdl hd
  have hb := hat.b
  have hrl := hr.len
  obtain ⟨t0, t1, he, hs, ht⟩ := hat.r
  simp only [uf] at hd
  refine t7 _ _ _ _ _ _ _ _ _ _ _ _ ?_
  repeat' first|with_reducible intro _|simp only[hat.lt, hat.w, Int.toNat_natCast, he,Y1,Y2,Y3,Y4]|(with_reducible first|refine X1 ?_ ?_|refine X2 ?_ ?_|refine X3 ?_ ?_|refine X4 ?_ ?_|refine X5 ?_ ?_|refine X6 ?_ ?_|refine X7 ?_ ?_|refine X8 ?_ ?_|refine X9 ?_ ?_)|refine⟨_,_,_,rfl,?_⟩|refine⟨_,rfl,?_⟩|((with_reducible refine And.intro ?_ ?_);·first|omega|trivial|(show _=_;rfl)|((with_reducible refine And.intro ?_ ?_)<;>first|omega|trivial|(show _=_;rfl)))|refine (tY _ _ ht) _ _ ?_|refine (tZ h a c _) _ _ ?_|refine (zU _ _ ht (hc x hat.m)) _ _ ?_|fail
  ·rename_i N2 hN2 x' N3 hN3 hx ho _ _
   have hin : zC9 g n x i = true := by simp [zC9, *]
   rw [if_pos hin] at hd
   refine ⟨by unfold zB; simp only [List.length_append, List.length_singleton]; omega, fun c2 => ih2 _ _ _ _ (done ++ [x]) (by omega) rfl (hr.snoc ⟨_, _, rfl, hs, Ty.is_cells hx⟩) (by simp; omega) (by simpa using hd)⟩
  all_goals (refine ih2 _ _ _ _ done (by omega) hm hr (by omega) ?_; rw [← hd, if_neg (by simp [zC9, *])])
theorem yq {g : List Tg} {es : List D} (h : Ctx g es) (hg : g.length ≤ 1073741824) (a : Option Addr) (c : Nat) {s : ByteArray} (hs : s.size ≤ 4611686018427387904) {t : Ty} {d : D} (ht : t.Is d) (n : Int) :
  ∀ (N : Nat) (Q : QT [.sl 4]), (∀ a' es' c' N', N ≤ N' → Ctx (g ++ [⟨s, t, n⟩]) es' → Q a' es' c' N') → ACalls prog 156 [.sl 4] [.sv a 4 es c, .str s, .dg 2 d, .int .i64 n] N Q := fun N Q hQ => by
 have hl := h.all.len
 have hb : ∀ x : D, zB ([] ++ es) [x] 56 := fun x => by unfold zB; simp only [List.nil_append, List.length_append, List.length_singleton]; omega
 have hb0 : zB [] es 56 := by unfold zB; simp only [List.nil_append]; omega
 refine zGo N a es c s d n Q fun _ _ => ?_
 repeat' first|with_reducible intro _|simp only[Y1,Y2,Y3,Y4]|(with_reducible first|refine X1 ?_ ?_|refine X2 ?_ ?_|refine X3 ?_ ?_|refine X4 ?_ ?_|refine X5 ?_ ?_|refine X6 ?_ ?_|refine X7 ?_ ?_|refine X8 ?_ ?_|refine X9 ?_ ?_)|refine⟨_,_,_,rfl,?_⟩|refine⟨_,rfl,?_⟩|((with_reducible refine And.intro ?_ ?_);·first|omega|trivial|(show _=_;rfl)|((with_reducible refine And.intro ?_ ?_)<;>first|omega|trivial|(show _=_;rfl)))|fail
 refine ⟨hb _, fun c2 => ?_⟩
 repeat' first|with_reducible intro _|simp only[Y1,Y2,Y3,Y4]|(with_reducible first|refine X1 ?_ ?_|refine X2 ?_ ?_|refine X3 ?_ ?_|refine X4 ?_ ?_|refine X5 ?_ ?_|refine X6 ?_ ?_|refine X7 ?_ ?_|refine X8 ?_ ?_|refine X9 ?_ ?_)|refine⟨_,_,_,rfl,?_⟩|refine⟨_,rfl,?_⟩|((with_reducible refine And.intro ?_ ?_);·first|omega|trivial|(show _=_;rfl)|((with_reducible refine And.intro ?_ ?_)<;>first|omega|trivial|(show _=_;rfl)))|fail
 refine hQ _ _ _ _ (by omega) ⟨by simp; omega, ?_⟩
 simp only [List.nil_append]
 exact h.all.snoc ⟨_, _, rfl, hs, Ty.is_cells ht⟩

def zKy (o : Option Ty) (d : D) (b : Bool) : Prop := match o with
 | some t => b = true ∧ t.Is d
 | none => b = false
/-- the kind of what an operation works on -/
def zIP (s : ByteArray) : Int := if s = bytes [38] then 2 else if s = bytes [124] then 2 else if s = bytes [33] then 2 else 1
def zBZ (s : ByteArray) : Ty := if s = bytes [43] then tInt else if s = bytes [45] then tInt else if s = bytes [42] then tInt else tBool
def zNd (w : Int) : List Ty → Bool
 | [] => true
 | t :: ts => decide (t.k = w) && zNd w ts
def zN5 (s : ByteArray) (ts : List Ty) : Option Ty := if zNd (zIP s) ts then some (zBZ s) else none
theorem zJj {ts : List Ty} {es : List D} (h : All2 Ty.Is ts es) (hlen : es.length ≤ 4611686018427387904) (a : Option Addr) (c : Nat) (s : ByteArray) :
  ∀ (N : Nat) (Q : QT [.ag 2, .bool]), (∀ d b N', N ≤ N' → zKy (zN5 s ts) d b → (∀ x ∈ d.foot, N ≤ x) → Q d b N') → ACalls prog 226 [.ag 2, .bool] [.str s, .sv a 2 es c] N Q := fun N Q hQ => by
 refine zI8 N s a es c Q fun _ => ?_
 have key : yP Q N s a es c (zIP s) (0 : Nat) 0 none [] 0 N := by
  refine up h hlen (fun i xs => ∀ (N' : Nat), N ≤ N' → zNd (zIP s) xs = zNd (zIP s) ts → yP Q N s a es c (zIP s) i 0 none [] 0 N') ?_ ?_ N (Nat.le_refl _) rfl
  ·intro i hlt _ N' hN' hk
   refine pq _ _ _ _ _ _ _ _ _ _ _ _ _ ?_
   have ho : zN5 s ts = some (zBZ s) := by rw [zN5, ← hk]; rfl
   rw [ho] at hQ
   repeat' first|with_reducible intro _|simp only[hlt,Y1,Y2,Y3,Y4]|(with_reducible first|refine X1 ?_ ?_|refine X2 ?_ ?_|refine X3 ?_ ?_|refine X4 ?_ ?_|refine X5 ?_ ?_|refine X6 ?_ ?_|refine X7 ?_ ?_|refine X8 ?_ ?_|refine X9 ?_ ?_)|refine⟨_,_,_,rfl,?_⟩|refine⟨_,rfl,?_⟩|((with_reducible refine And.intro ?_ ?_);·first|omega|trivial|(show _=_;rfl)|((with_reducible refine And.intro ?_ ?_)<;>first|omega|trivial|(show _=_;rfl)))|refine zBD _ _ ?_|refine zAE _ _ ?_|fail
   all_goals
    rename_i hx ho _ _ _ _
    refine hQ _ _ _ (by omega) ⟨rfl, ?_⟩ fun b hb => by have := ho.lo b hb; omega
    have e : zBZ s = tInt ∨ zBZ s = tBool := by unfold zBZ; (repeat' split) <;> simp
    first
     | (have e : zBZ s = tInt := by unfold zBZ; (repeat' split) <;> first | rfl | contradiction
        rw [e]; exact hx)
     | (have e : zBZ s = tBool := by unfold zBZ; (repeat' split) <;> first | rfl | contradiction
        rw [e]; exact hx)
  ·intro i x xs hat _ ih2 N' hN' hk
   have hb := hat.b
   cases x with
   | mk k l =>
   obtain ⟨a1, es1, c1, he, _, _⟩ := Ty.is_mk.1 hat.r
   refine pq _ _ _ _ _ _ _ _ _ _ _ _ _ ?_
   repeat' first|with_reducible intro _|simp only[hat.lt, hat.w, Int.toNat_natCast, he,Y1,Y2,Y3,Y4]|(with_reducible first|refine X1 ?_ ?_|refine X2 ?_ ?_|refine X3 ?_ ?_|refine X4 ?_ ?_|refine X5 ?_ ?_|refine X6 ?_ ?_|refine X7 ?_ ?_|refine X8 ?_ ?_|refine X9 ?_ ?_)|refine⟨_,_,_,rfl,?_⟩|refine⟨_,rfl,?_⟩|((with_reducible refine And.intro ?_ ?_);·first|omega|trivial|(show _=_;rfl)|((with_reducible refine And.intro ?_ ?_)<;>first|omega|trivial|(show _=_;rfl)))|fail
   ·rename_i hne _ _
    refine hQ _ _ _ (by omega) ?_ (by simp [D.foot, zA])
    have : zNd (zIP s) ts = false := by rw [← hk]; simp [zNd, Ty.k, hne]
    rw [zN5, this]; rfl
   ·rename_i hne
    exact ih2 _ hN' (by rw [← hk]; simp [zNd, Ty.k, hne])
 have e : zIP s = 2 ∨ zIP s = 1 := by unfold zIP; (repeat' split) <;> simp
 repeat' first|with_reducible intro _|simp only[Y1,Y2,Y3,Y4]|(with_reducible first|refine X1 ?_ ?_|refine X2 ?_ ?_|refine X3 ?_ ?_|refine X4 ?_ ?_|refine X5 ?_ ?_|refine X6 ?_ ?_|refine X7 ?_ ?_|refine X8 ?_ ?_|refine X9 ?_ ?_)|refine⟨_,_,_,rfl,?_⟩|refine⟨_,rfl,?_⟩|((with_reducible refine And.intro ?_ ?_);·first|omega|trivial|(show _=_;rfl)|((with_reducible refine And.intro ?_ ?_)<;>first|omega|trivial|(show _=_;rfl)))|fail
 all_goals
  first
   | (have e : zIP s = 2 := by unfold zIP; (repeat' split) <;> first | rfl | contradiction
      rw [e] at key; exact key)
   | (have e : zIP s = 1 := by unfold zIP; (repeat' split) <;> first | rfl | contradiction
      rw [e] at key; exact key)

/-- the type of a form of parts of these types -/
def yV (k : Int) (s : ByteArray) (ts : List Ty) : Option Ty :=
 if k = 4 then zN5 s ts
 else if k = 5 then (if (ts.getD 0 tZero).k = 2 ∧ uP (ts.getD 1 tZero) (ts.getD 2 tZero) then some (ts.getD 1 tZero) else none)
 else if (ts.getD 0 tZero).k = 3 ∧ uP ((ts.getD 0 tZero).as.getD 0 tZero) (ts.getD 1 tZero) then some ((ts.getD 0 tZero).as.getD 1 tZero) else none
theorem Ty.form_len {k : Int} {l : List Ty} (h : (Ty.mk k l).valid = true) : rr k l.length = true := by
 simp only [Ty.valid, Ty.form, Bool.and_eq_true] at h
 exact h.2.2
theorem Ty.valid_cnt {t : Ty} (h : t.valid = true) : t.cnt ≤ 30 := by
 simp only [Ty.valid, Bool.and_eq_true, decide_eq_true_eq] at h
 exact h.1.1
theorem zGH {ts : List Ty} {es : List D} (h : All2 Ty.Is ts es) (hlen : es.length ≤ 4611686018427387904) (a : Option Addr) (c : Nat) {k n : Int} {s : ByteArray} {c2 c4 c5 c6 c7 c8 : D}
  (hv : ∀ t ∈ ts, t.valid = true) (hk : k = 4 ∨ k = 5 ∧ ts.length = 3 ∨ k = 7 ∧ ts.length = 2) :
  ∀ (N : Nat) (Q : QT [.ag 2, .bool]), (∀ d b N', N ≤ N' → zKy (yV k s ts) d b → (∀ x ∈ d.foot, x ∈ zA es ∨ N ≤ x) → Q d b N') →
  ACalls prog 182 [.ag 2, .bool] [.dg 9 (.ag [.lit (.int .i64 k), .lit (.string s), c2, .lit (.int .i64 n), c4, c5, c6, c7, c8]), .sv a 2 es c] N Q := fun N Q hQ => by
 refine zGO N _ a es c Q fun _ _ => ?_
 rcases hk with rfl | ⟨rfl, hl⟩ | ⟨rfl, hl⟩
 ·repeat' first|with_reducible intro _|simp only[Y1,Y2,Y3,Y4]|(with_reducible first|refine X1 ?_ ?_|refine X2 ?_ ?_|refine X3 ?_ ?_|refine X4 ?_ ?_|refine X5 ?_ ?_|refine X6 ?_ ?_|refine X7 ?_ ?_|refine X8 ?_ ?_|refine X9 ?_ ?_)|refine⟨_,_,_,rfl,?_⟩|refine⟨_,rfl,?_⟩|((with_reducible refine And.intro ?_ ?_);·first|omega|trivial|(show _=_;rfl)|((with_reducible refine And.intro ?_ ?_)<;>first|omega|trivial|(show _=_;rfl)))|refine (zJj h hlen a c s) _ _ ?_|fail
  ·rename_i N1 hN1 d b N2 hN2 ho hlo _ _ N3 hN3
   exact hQ _ _ _ (by omega) (by simpa [yV] using ho) fun x hx => .inr (by have := hlo x hx; omega)
  all_goals (exfalso; omega)
 ·obtain ⟨t0, t1, t2, rfl⟩ : ∃ t0 t1 t2, ts = [t0, t1, t2] := by
   match ts, hl with
   | [t0, t1, t2], _ => exact ⟨t0, t1, t2, rfl⟩
  obtain ⟨d0, _, rfl, h0, d1, _, rfl, h1, d2, _, rfl, h2, rfl⟩ := h
  cases t0 with
  | mk k0 l0 =>
  obtain ⟨a0, es0, c0, rfl, hl0, he0⟩ := Ty.is_mk.1 h0
  have hq : ∀ (b : Bool) (N' : Nat), N ≤ N' → (k0 = 2 ∧ uP t1 t2 = b ∨ ¬ k0 = 2 ∧ b = false) → Q d1 b N' := fun b N' hN' hb => by
   refine hQ _ _ _ hN' ?_ fun x hx => .inl (by simp only [zA, List.mem_append]; exact .inr (.inl hx))
   rcases hb with ⟨e1, e2⟩ | ⟨e1, rfl⟩
   ·cases b <;> simp [yV, Ty.k, e1, e2, zKy, h1]
   ·simp [yV, Ty.k, e1, zKy]
  repeat' first|with_reducible intro _|simp only[List.length_cons, List.length_nil,Y1,Y2,Y3,Y4]|(with_reducible first|refine X1 ?_ ?_|refine X2 ?_ ?_|refine X3 ?_ ?_|refine X4 ?_ ?_|refine X5 ?_ ?_|refine X6 ?_ ?_|refine X7 ?_ ?_|refine X8 ?_ ?_|refine X9 ?_ ?_)|refine⟨_,_,_,rfl,?_⟩|refine⟨_,rfl,?_⟩|((with_reducible refine And.intro ?_ ?_);·first|omega|trivial|(show _=_;rfl)|((with_reducible refine And.intro ?_ ?_)<;>first|omega|trivial|(show _=_;rfl)))|refine (w6 _ _ _ _ h1 h2) _ _ ?_|fail
  all_goals first | (exfalso; omega) | skip
  ·exact hq _ _ (by omega) (.inl ⟨by assumption, rfl⟩)
  ·exact hq _ _ (by omega) (.inr ⟨by assumption, rfl⟩)
 ·obtain ⟨t0, t1, rfl⟩ : ∃ t0 t1, ts = [t0, t1] := by
   match ts, hl with
   | [t0, t1], _ => exact ⟨t0, t1, rfl⟩
  obtain ⟨d0, _, rfl, h0, d1, _, rfl, h1, rfl⟩ := h
  cases t0 with
  | mk k0 l0 =>
  obtain ⟨a0, es0, c0, rfl, hl0, he0⟩ := Ty.is_mk.1 h0
  have hf := Ty.form_len (hv _ List.mem_cons_self)
  have hcn := Ty.valid_cnt (hv _ List.mem_cons_self)
  have hz : ∀ N', N ≤ N' → ¬ (k0 = 3 ∧ uP (l0.getD 0 tZero) t1 = true) → Q (.ag [.lit (.int .i64 0), .sl none 2 [] 0]) false N' := fun N' hN' hb => by
   refine hQ _ _ _ hN' ?_ (by simp [D.foot, zA])
   have : yV 7 s [.mk k0 l0, t1] = none := by
    simp only [yV]
    rw [if_neg (by omega), if_neg (by omega)]
    exact if_neg hb
   rw [this]; rfl
  by_cases hk : k0 = 3
  ·subst hk
   have hl2 : (l0.length : Int) = 2 := by simpa [rr] using hf
   have hl2 : l0.length = 2 := by omega
   obtain ⟨u0, u1, rfl⟩ : ∃ t0 t1, l0 = [t0, t1] := by
    match l0, hl2 with
    | [t0, t1], _ => exact ⟨t0, t1, rfl⟩
   obtain ⟨x0, _, rfl, hx0, x1, _, rfl, hx1, rfl⟩ := he0
   simp only [Ty.cnt, zH] at hcn
   repeat' first|with_reducible intro _|simp only[List.length_cons, List.length_nil,Y1,Y2,Y3,Y4]|(with_reducible first|refine X1 ?_ ?_|refine X2 ?_ ?_|refine X3 ?_ ?_|refine X4 ?_ ?_|refine X5 ?_ ?_|refine X6 ?_ ?_|refine X7 ?_ ?_|refine X8 ?_ ?_|refine X9 ?_ ?_)|refine⟨_,_,_,rfl,?_⟩|refine⟨_,rfl,?_⟩|((with_reducible refine And.intro ?_ ?_);·first|omega|trivial|(show _=_;rfl)|((with_reducible refine And.intro ?_ ?_)<;>first|omega|trivial|(show _=_;rfl)))|refine (w6 _ _ _ _ hx0 h1) _ _ ?_|refine (zU _ _ hx1 (by omega)) _ _ ?_|fail
   all_goals first | (exfalso; omega) | skip
   ·rename_i he N1 hN1 d' N2 hN2 hd' ho _ _ N3 hN3
    refine hQ _ _ _ (by omega) ?_ fun x hx => .inr (by have := ho.lo x hx; omega)
    simp [yV, Ty.k, Ty.as, he, zKy, hd']
   ·rename_i he _ _
    exact hz _ (by omega) (by simp [he])
  ·repeat' first|with_reducible intro _|simp only[List.length_cons, List.length_nil,Y1,Y2,Y3,Y4]|(with_reducible first|refine X1 ?_ ?_|refine X2 ?_ ?_|refine X3 ?_ ?_|refine X4 ?_ ?_|refine X5 ?_ ?_|refine X6 ?_ ?_|refine X7 ?_ ?_|refine X8 ?_ ?_|refine X9 ?_ ?_)|refine⟨_,_,_,rfl,?_⟩|refine⟨_,rfl,?_⟩|((with_reducible refine And.intro ?_ ?_);·first|omega|trivial|(show _=_;rfl)|((with_reducible refine And.intro ?_ ?_)<;>first|omega|trivial|(show _=_;rfl)))|fail
   all_goals first | (exfalso; omega) | skip
   exact hz _ (by omega) fun hc => hk hc.1
end Go.Proofs.YtfkmegifjiiclaaGreat
