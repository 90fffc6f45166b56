/- Parameters: what they are; the laws' sizes, copies, equality and marks on them. -/
import Derived.Test.YtnpjpplbkoammaaGreatDoorVv
import Derived.Test.YtnpjpplbkoammaaGreatDoorVi
import Derived.Test.YtnpjpplbkoammaaGreatDoorKi
set_option linter.unusedVariables false
set_option linter.unusedSimpArgs false
namespace Go.Proofs.YtnpjpplbkoammaaGreatDoor
open Go Go.Proofs Go.Proofs.Tryz Go.IntWalk

structure Pm where
 nm : ByteArray
 ty : Ty
 dy : Bool
def Pm.Is (g : Pm) (d : D) : Prop := ∃ t0 t1, d = .ag [.lit (.string g.nm), t0, t1, .lit (.bool g.dy)] ∧ g.nm.size ≤ 4611686018427387904 ∧ g.ty.Is (.ag [t0, t1])
end Go.Proofs.YtnpjpplbkoammaaGreatDoor

/- The program's functions on names and types. -/
set_option linter.unusedVariables false
set_option linter.unusedSimpArgs false
namespace Go.Proofs.YtnpjpplbkoammaaGreatDoor
open Go Go.Proofs Go.Proofs.Tryz Go.IntWalk

theorem yx (n a b : Int) : vh 56 [.int .i64 n, .int .i64 a, .int .i64 b] (inB n a b) := fun N Q hQ => by
 refine zEp N n a b Q ?_
 repeat' first|with_reducible intro _|simp only[Y1,Y2,Y3,Y4]|(with_reducible first|refine X1 ?_ ?_|refine X2 ?_ ?_|refine X3 ?_ ?_|refine X4 ?_ ?_|refine X5 ?_ ?_|refine X6 ?_ ?_|refine X7 ?_ ?_|refine X8 ?_ ?_|refine X9 ?_ ?_)|refine⟨_,_,_,rfl,?_⟩|refine⟨_,rfl,?_⟩|((with_reducible refine And.intro ?_ ?_);·first|omega|trivial|(show _=_;rfl)|((with_reducible refine And.intro ?_ ?_)<;>first|omega|trivial|(show _=_;rfl)))|fail
 all_goals simpa [inB, *] using hQ _ (by omega)

def pW {α : Type} (p : α → Bool) : List α → Int → Int
 | [], _ => -1
 | x :: xs, i => if p x then i else pW p xs (i + 1)
theorem qI {α : Type} (p : α → Bool) : ∀ (l : List α) (i : Int), 0 ≤ i → decide (pW p l i ≥ 0) = l.any p
 | [], i, h => by simp [pW]
 | x :: xs, i, h => by
   have ih := qI p xs (i + 1) (by omega)
   rw [Bool.eq_iff_iff, decide_eq_true_iff] at ih ⊢
   simp only [pW, List.any_cons, Bool.or_eq_true]
   by_cases hp : p x = true
   ·simp only [hp, if_true, true_or, iff_true]; exact h
   ·simpa [hp] using ih

/-- a row of words -/
def zA (l : List ByteArray) : List D := l.map fun s => .lit (.string s)
theorem yr : ∀ l : List ByteArray, All2 (fun s d => d = .lit (.string s)) l (zA l)
 | [] => rfl
 | s :: l => ⟨_, _, rfl, rfl, yr l⟩
theorem zGj (l : List ByteArray) (hl : l.length ≤ 4611686018427387904) (a : Option Addr) (c : Nat) (s : ByteArray) : qS 165 [.sv a 0 (zA l) c, .str s] (pW (fun x => decide (s = x)) l 0) := fun N Q hQ => by
 have hes := yr l
 have hlen : (zA l).length ≤ 4611686018427387904 := by rw [hes.len]; exact hl
 refine sy N a _ c s Q fun _ => ?_
 refine up hes hlen (fun i xs => ∀ (N' : Nat), N ≤ N' → (∀ N'', N' ≤ N'' → Q (pW (fun x => decide (s = x)) xs i) N'') → yC Q N a (zA l) c s ((zA l).length : Int) i N') ?_ ?_ N (Nat.le_refl _) hQ
 ·intro i hlt _ N' hN' hQ'
  refine wO _ _ _ _ _ _ _ _ _ ?_
  repeat' first|with_reducible intro _|simp only[hlt,Y1,Y2,Y3,Y4]|(with_reducible first|refine X1 ?_ ?_|refine X2 ?_ ?_|refine X3 ?_ ?_|refine X4 ?_ ?_|refine X5 ?_ ?_|refine X6 ?_ ?_|refine X7 ?_ ?_|refine X8 ?_ ?_|refine X9 ?_ ?_)|refine⟨_,_,_,rfl,?_⟩|refine⟨_,rfl,?_⟩|((with_reducible refine And.intro ?_ ?_);·first|omega|trivial|(show _=_;rfl)|((with_reducible refine And.intro ?_ ?_)<;>first|omega|trivial|(show _=_;rfl)))|fail
  exact hQ' _ (by omega)
 ·intro i x xs hat _ ih2 N' hN' hQ'
  have hb := hat.b
  have hr := hat.r
  simp only [pW] at hQ'
  refine wO _ _ _ _ _ _ _ _ _ ?_
  repeat' first|with_reducible intro _|simp only[hat.lt, hat.w, Int.toNat_natCast, hr,Y1,Y2,Y3,Y4]|(with_reducible first|refine X1 ?_ ?_|refine X2 ?_ ?_|refine X3 ?_ ?_|refine X4 ?_ ?_|refine X5 ?_ ?_|refine X6 ?_ ?_|refine X7 ?_ ?_|refine X8 ?_ ?_|refine X9 ?_ ?_)|refine⟨_,_,_,rfl,?_⟩|refine⟨_,rfl,?_⟩|((with_reducible refine And.intro ?_ ?_);·first|omega|trivial|(show _=_;rfl)|((with_reducible refine And.intro ?_ ?_)<;>first|omega|trivial|(show _=_;rfl)))|fail
  ·rename_i h _ _; subst h; exact Qi (hQ' _ (by omega)) (by simp)
  ·rename_i h; exact ih2 _ hN' fun N'' h2 => Qi (hQ' _ h2) (by rw [if_neg (by simpa using h)]; simp)
theorem yL (l : List ByteArray) (hl : l.length ≤ 4611686018427387904) (a : Option Addr) (c : Nat) (s : ByteArray) : vh 131 [.sv a 0 (zA l) c, .str s] (l.any fun x => decide (s = x)) := fun N Q hQ => by
 refine ux N a _ c s Q fun _ => ?_
 repeat' first|with_reducible intro _|simp only[Y1,Y2,Y3,Y4]|(with_reducible first|refine X1 ?_ ?_|refine X2 ?_ ?_|refine X3 ?_ ?_|refine X4 ?_ ?_|refine X5 ?_ ?_|refine X6 ?_ ?_|refine X7 ?_ ?_|refine X8 ?_ ?_|refine X9 ?_ ?_)|refine⟨_,_,_,rfl,?_⟩|refine⟨_,rfl,?_⟩|((with_reducible refine And.intro ?_ ?_);·first|omega|trivial|(show _=_;rfl)|((with_reducible refine And.intro ?_ ?_)<;>first|omega|trivial|(show _=_;rfl)))|refine (zGj l hl a c s) _ _ ?_|fail
 exact Qb (hQ _ (by omega)) (qI _ l 0 (by omega)).symm
theorem rO (s : ByteArray) (hs : s.size ≤ 4611686018427387904) : vh 176 [.str s] (sT s) := fun N Q hQ => by
 refine zDe N s Q ?_
 have key := upN hs (fun i => ∀ N', N ≤ N' → (∀ N'', N' ≤ N'' → Q (vM s i && zC4 s) N'') → yW Q N s (s.size : Int) i N') ?_ ?_
 ·exact key N (Nat.le_refl _) hQ
 ·intro hlt N' hN' hQ'
  have hc := yL [bytes [105, 102], bytes [108, 101, 116], bytes [108, 105, 102, 116], bytes [114, 101, 99], bytes [114, 117, 110]] (by simp)
  simp only [zA, List.map] at hc
  refine u2 _ _ _ _ _ _ ?_
  repeat' first|with_reducible intro _|simp only[hlt,Y1,Y2,Y3,Y4]|(with_reducible first|refine X1 ?_ ?_|refine X2 ?_ ?_|refine X3 ?_ ?_|refine X4 ?_ ?_|refine X5 ?_ ?_|refine X6 ?_ ?_|refine X7 ?_ ?_|refine X8 ?_ ?_|refine X9 ?_ ?_)|refine⟨_,_,_,rfl,?_⟩|refine⟨_,rfl,?_⟩|((with_reducible refine And.intro ?_ ?_);·first|omega|trivial|(show _=_;rfl)|((with_reducible refine And.intro ?_ ?_)<;>first|omega|trivial|(show _=_;rfl)))|refine (yx _ _ _) _ _ ?_|refine (hc _ _ _) _ _ ?_|fail
  all_goals (refine Qb (hQ' _ (by omega)) ?_; rw [pM])
  ·simp only [zC4, List.any_cons, List.any_nil, Bool.or_false, *]
   cases decide (s = bytes [105, 102]) <;> cases decide (s = bytes [108, 101, 116]) <;> cases decide (s = bytes [108, 105, 102, 116]) <;> cases decide (s = bytes [114, 101, 99]) <;> cases decide (s = bytes [114, 117, 110]) <;> rfl
  ·simp [zC4, *]
 ·intro i hi hlt hw ih2 N' hN' hQ'
  refine u2 _ _ _ _ _ _ ?_
  rw [rM hi] at hQ'
  repeat' first|with_reducible intro _|simp only[hlt, hw, Int.toNat_natCast,Y1,Y2,Y3,Y4]|(with_reducible first|refine X1 ?_ ?_|refine X2 ?_ ?_|refine X3 ?_ ?_|refine X4 ?_ ?_|refine X5 ?_ ?_|refine X6 ?_ ?_|refine X7 ?_ ?_|refine X8 ?_ ?_|refine X9 ?_ ?_)|refine⟨_,_,_,rfl,?_⟩|refine⟨_,rfl,?_⟩|((with_reducible refine And.intro ?_ ?_);·first|omega|trivial|(show _=_;rfl)|((with_reducible refine And.intro ?_ ?_)<;>first|omega|trivial|(show _=_;rfl)))|fail
  all_goals first
   | (refine Qb (hQ' _ (by omega)) ?_; unfold zDK pN; simp only [*]; simp; done)
   | (refine ih2 _ (by omega) fun N'' h => Qb (hQ' N'' (by omega)) ?_; unfold zDK pN; simp only [*]; simp; done)
theorem qX : ∀ (t : Ty) (d : D), t.Is d → t.cnt ≤ 1073741824 → qS 157 [.dg 2 d] t.cnt := by
 refine Ty.ind fun k l ih d hd hc N Q hQ => ?_
 obtain ⟨a, es, c, rfl, hlen, hes⟩ := Ty.is_mk.1 hd
 simp only [Ty.cnt] at hc
 refine qa N _ Q fun _ => ⟨_, _, _, rfl, ?_⟩
 refine up hes hlen (fun i xs => ∀ (m : Nat) (N' : Nat), N ≤ N' → m + zG xs = 1 + zG l → yZ Q N m a es c es.length i N') ?_ ?_ 1 N (Nat.le_refl _) rfl
 ·intro i hlt _ m N' hN' hm
  refine vB _ _ _ _ _ _ _ _ _ ?_
  simp only [zG] at hm
  repeat' first|with_reducible intro _|simp only[hlt,Y1,Y2,Y3,Y4]|(with_reducible first|refine X1 ?_ ?_|refine X2 ?_ ?_|refine X3 ?_ ?_|refine X4 ?_ ?_|refine X5 ?_ ?_|refine X6 ?_ ?_|refine X7 ?_ ?_|refine X8 ?_ ?_|refine X9 ?_ ?_)|refine⟨_,_,_,rfl,?_⟩|refine⟨_,rfl,?_⟩|((with_reducible refine And.intro ?_ ?_);·first|omega|trivial|(show _=_;rfl)|((with_reducible refine And.intro ?_ ?_)<;>first|omega|trivial|(show _=_;rfl)))|fail
  exact Qi (hQ _ (by omega)) (by simp only [Ty.cnt]; omega)
 ·intro i x xs hat _ ih2 m N' hN' hm
  have hb := hat.b
  have hxc := wC hat.m
  simp only [zG] at hm
  refine vB _ _ _ _ _ _ _ _ _ ?_
  repeat' first|with_reducible intro _|simp only[hat.lt, hat.w, Int.toNat_natCast,Y1,Y2,Y3,Y4]|(with_reducible first|refine X1 ?_ ?_|refine X2 ?_ ?_|refine X3 ?_ ?_|refine X4 ?_ ?_|refine X5 ?_ ?_|refine X6 ?_ ?_|refine X7 ?_ ?_|refine X8 ?_ ?_|refine X9 ?_ ?_)|refine⟨_,_,_,rfl,?_⟩|refine⟨_,rfl,?_⟩|((with_reducible refine And.intro ?_ ?_);·first|omega|trivial|(show _=_;rfl)|((with_reducible refine And.intro ?_ ?_)<;>first|omega|trivial|(show _=_;rfl)))|refine (ih x hat.m _ hat.r (by omega)) _ _ ?_|fail
  rw [i64_in _ (by omega)]
  exact ih2 (m + x.cnt) _ (by omega) (by omega)
theorem rv : ∀ (t : Ty) (d : D), t.Is d → t.cnt ≤ 1073741824 → qS 158 [.dg 2 d] t.dep := by
 refine Ty.ind fun k l ih d hd hc N Q hQ => ?_
 obtain ⟨a, es, c, rfl, hlen, hes⟩ := Ty.is_mk.1 hd
 simp only [Ty.cnt] at hc
 have hdl := tm l
 refine qG N _ Q fun _ => ⟨_, _, _, rfl, ?_⟩
 refine up hes hlen (fun i xs => ∀ (m : Nat) (N' : Nat), N ≤ N' → max m (uW xs) = uW l → yS Q N m a es c es.length i N') ?_ ?_ 0 N (Nat.le_refl _) (by omega)
 ·intro i hlt _ m N' hN' hm
  refine wW _ _ _ _ _ _ _ _ _ ?_
  simp only [uW] at hm
  repeat' first|with_reducible intro _|simp only[hlt,Y1,Y2,Y3,Y4]|(with_reducible first|refine X1 ?_ ?_|refine X2 ?_ ?_|refine X3 ?_ ?_|refine X4 ?_ ?_|refine X5 ?_ ?_|refine X6 ?_ ?_|refine X7 ?_ ?_|refine X8 ?_ ?_|refine X9 ?_ ?_)|refine⟨_,_,_,rfl,?_⟩|refine⟨_,rfl,?_⟩|((with_reducible refine And.intro ?_ ?_);·first|omega|trivial|(show _=_;rfl)|((with_reducible refine And.intro ?_ ?_)<;>first|omega|trivial|(show _=_;rfl)))|fail
  rw [i64_in _ (by omega)]
  exact Qi (hQ _ (by omega)) (by simp only [Ty.dep]; omega)
 ·intro i x xs hat _ ih2 m N' hN' hm
  have hb := hat.b
  have hxc := wC hat.m
  simp only [uW] at hm
  refine wW _ _ _ _ _ _ _ _ _ ?_
  repeat' first|with_reducible intro _|simp only[hat.lt, hat.w, Int.toNat_natCast,Y1,Y2,Y3,Y4]|(with_reducible first|refine X1 ?_ ?_|refine X2 ?_ ?_|refine X3 ?_ ?_|refine X4 ?_ ?_|refine X5 ?_ ?_|refine X6 ?_ ?_|refine X7 ?_ ?_|refine X8 ?_ ?_|refine X9 ?_ ?_)|refine⟨_,_,_,rfl,?_⟩|refine⟨_,rfl,?_⟩|((with_reducible refine And.intro ?_ ?_);·first|omega|trivial|(show _=_;rfl)|((with_reducible refine And.intro ?_ ?_)<;>first|omega|trivial|(show _=_;rfl)))|refine (ih x hat.m _ hat.r (by omega)) _ _ ?_|fail
  have e : (if (x.dep : Int) > (m : Int) then (x.dep : Int) else (m : Int)) = ((max m x.dep : Nat) : Int) := by split <;> omega
  rw [e]
  exact ih2 _ _ (by omega) (by omega)
theorem zBm (t : Ty) (d : D) (hd : t.Is d) : vh 159 [.dg 2 d] (zFb t.k t.as.length) := fun N Q hQ => by
 cases t with
 | mk k l =>
 obtain ⟨a, es, c, rfl, hlen, hes⟩ := Ty.is_mk.1 hd
 have hl := hes.len
 simp only [Ty.k, Ty.as] at hQ
 refine sR N _ Q fun _ => ?_
 cases hin : inB k 1 4 with
 | false =>
   repeat' first|with_reducible intro _|simp only[hin,Y1,Y2,Y3,Y4]|(with_reducible first|refine X1 ?_ ?_|refine X2 ?_ ?_|refine X3 ?_ ?_|refine X4 ?_ ?_|refine X5 ?_ ?_|refine X6 ?_ ?_|refine X7 ?_ ?_|refine X8 ?_ ?_|refine X9 ?_ ?_)|refine⟨_,_,_,rfl,?_⟩|refine⟨_,rfl,?_⟩|((with_reducible refine And.intro ?_ ?_);·first|omega|trivial|(show _=_;rfl)|((with_reducible refine And.intro ?_ ?_)<;>first|omega|trivial|(show _=_;rfl)))|refine (yx _ _ _) _ _ ?_|fail
   refine Qb (hQ _ (by omega)) ?_
   have : ¬ (1 ≤ k ∧ k ≤ 4) := fun h => by rw [wE.2 h] at hin; cases hin
   unfold zFb
   rw [if_neg (by omega), if_neg (by omega), if_neg (by omega)]
 | true =>
   have hb := wE.1 hin
   have w0 : IntKind.i64.wrap 0 = 0 := rfl
   have w1 : IntKind.i64.wrap 1 = 1 := rfl
   have w2 : IntKind.i64.wrap 2 = 2 := rfl
   have w3 : IntKind.i64.wrap 3 = 3 := rfl
   have hk : k = 1 ∨ k = 2 ∨ k = 3 ∨ k = 4 := by omega
   rcases hk with rfl | rfl | rfl | rfl
   all_goals
    repeat' first|with_reducible intro _|simp only[hin, w0, w1, w2, w3,Y1,Y2,Y3,Y4]|(with_reducible first|refine X1 ?_ ?_|refine X2 ?_ ?_|refine X3 ?_ ?_|refine X4 ?_ ?_|refine X5 ?_ ?_|refine X6 ?_ ?_|refine X7 ?_ ?_|refine X8 ?_ ?_|refine X9 ?_ ?_)|refine⟨_,_,_,rfl,?_⟩|refine⟨_,rfl,?_⟩|((with_reducible refine And.intro ?_ ?_);·first|omega|trivial|(show _=_;rfl)|((with_reducible refine And.intro ?_ ?_)<;>first|omega|trivial|(show _=_;rfl)))|refine (yx _ _ _) _ _ ?_|fail
    refine Qb (hQ _ (by omega)) ?_
    simp [zFb, hl]
theorem zBk : ∀ l : List Ty, tB l = !(l.any fun x => !x.form)
 | [] => rfl
 | t :: ts => by simp only [tB, List.any_cons, zBk ts]; cases t.form <;> simp
theorem zBd {p : Ty → Bool} {l : List Ty} {es : List D} (h : All2 Ty.Is l es) (hlen : es.length ≤ 4611686018427387904) (ad : Addr) (hp : ∀ x ∈ l, ∀ d, x.Is d → vh 161 [.dg 2 d, .pd ad 0 (.fn 159 [])] (p x)) (a : Option Addr) (c : Nat) :
  vh 160 [.sv a 2 es c, .fn 161 [.pd ad 0 (.fn 159 [])]] (l.any p) := fun N Q hQ => by
 have hi : qS 185 [.sv a 2 es c, .fn 161 [.pd ad 0 (.fn 159 [])]] (pW p l 0) := fun N Q hQ => by
  refine vH N a es c ad Q fun _ => ?_
  refine up h hlen (fun i xs => ∀ (N' : Nat), N ≤ N' → (∀ N'', N' ≤ N'' → Q (pW p xs i) N'') → za Q N a es c ad es.length i N') ?_ ?_ N (Nat.le_refl _) hQ
  ·intro i hlt _ N' hN' hQ'
   refine xF _ _ _ _ _ _ _ _ _ ?_
   repeat' first|with_reducible intro _|simp only[hlt,Y1,Y2,Y3,Y4]|(with_reducible first|refine X1 ?_ ?_|refine X2 ?_ ?_|refine X3 ?_ ?_|refine X4 ?_ ?_|refine X5 ?_ ?_|refine X6 ?_ ?_|refine X7 ?_ ?_|refine X8 ?_ ?_|refine X9 ?_ ?_)|refine⟨_,_,_,rfl,?_⟩|refine⟨_,rfl,?_⟩|((with_reducible refine And.intro ?_ ?_);·first|omega|trivial|(show _=_;rfl)|((with_reducible refine And.intro ?_ ?_)<;>first|omega|trivial|(show _=_;rfl)))|fail
   exact hQ' _ (by omega)
  ·intro i x xs hat _ ih2 N' hN' hQ'
   have hb := hat.b
   simp only [pW] at hQ'
   refine xF _ _ _ _ _ _ _ _ _ ?_
   repeat' first|with_reducible intro _|simp only[hat.lt, hat.w, Int.toNat_natCast,Y1,Y2,Y3,Y4]|(with_reducible first|refine X1 ?_ ?_|refine X2 ?_ ?_|refine X3 ?_ ?_|refine X4 ?_ ?_|refine X5 ?_ ?_|refine X6 ?_ ?_|refine X7 ?_ ?_|refine X8 ?_ ?_|refine X9 ?_ ?_)|refine⟨_,_,_,rfl,?_⟩|refine⟨_,rfl,?_⟩|((with_reducible refine And.intro ?_ ?_);·first|omega|trivial|(show _=_;rfl)|((with_reducible refine And.intro ?_ ?_)<;>first|omega|trivial|(show _=_;rfl)))|refine (hp x hat.m _ hat.r) _ _ ?_|fail
   ·exact Qi (hQ' _ (by omega)) (by rw [if_pos (by assumption)])
   ·rename_i h; exact ih2 _ (by omega) fun N'' h2 => Qi (hQ' _ (by omega)) (by rw [h]; simp)
 refine wV N a es c ad Q fun _ => ?_
 repeat' first|with_reducible intro _|simp only[Y1,Y2,Y3,Y4]|(with_reducible first|refine X1 ?_ ?_|refine X2 ?_ ?_|refine X3 ?_ ?_|refine X4 ?_ ?_|refine X5 ?_ ?_|refine X6 ?_ ?_|refine X7 ?_ ?_|refine X8 ?_ ?_|refine X9 ?_ ?_)|refine⟨_,_,_,rfl,?_⟩|refine⟨_,rfl,?_⟩|((with_reducible refine And.intro ?_ ?_);·first|omega|trivial|(show _=_;rfl)|((with_reducible refine And.intro ?_ ?_)<;>first|omega|trivial|(show _=_;rfl)))|refine hi _ _ ?_|fail
 exact Qb (hQ _ (by omega)) (qI _ l 0 (by omega)).symm
theorem zI2 : ∀ (t : Ty) (d : D), t.Is d → vh 126 [.dg 2 d, .fn 159 []] t.form := by
 refine Ty.ind fun k l ih d hd N Q hQ => ?_
 have hd' := hd
 obtain ⟨a, es, c, rfl, hlen, hes⟩ := Ty.is_mk.1 hd
 refine qQ N _ Q fun _ => ?_
 simp only [Ty.form, zBk] at hQ
 repeat' first|with_reducible intro _|simp only[Y1,Y2,Y3,Y4]|(with_reducible first|refine X1 ?_ ?_|refine X2 ?_ ?_|refine X3 ?_ ?_|refine X4 ?_ ?_|refine X5 ?_ ?_|refine X6 ?_ ?_|refine X7 ?_ ?_|refine X8 ?_ ?_|refine X9 ?_ ?_)|refine⟨_,_,_,rfl,?_⟩|refine⟨_,rfl,?_⟩|((with_reducible refine And.intro ?_ ?_);·first|omega|trivial|(show _=_;rfl)|((with_reducible refine And.intro ?_ ?_)<;>first|omega|trivial|(show _=_;rfl)))|refine (zBm _ _ hd') _ _ ?_|refine (zBd hes hlen _ (fun x hx d hd => fun N Q hQ => sQ N d _ Q fun _ N1 hN1 => ih x hx d hd N1 _ fun N2 hN2 hle N3 hN3 => hQ N3 (by omega)) _ _) _ _ ?_|fail
 ·have h : zFb (Ty.mk k l).k (Ty.mk k l).as.length = true := by assumption
  exact Qb (hQ _ (by omega)) (by simp only [Ty.k, Ty.as] at h; rw [h, Bool.and_true])
 ·rename_i h _ _
  exact Qb (hQ _ (by omega)) (by simp only [Ty.k, Ty.as] at h; rw [h, Bool.and_false])
theorem vW (t : Ty) (d : D) (hd : t.Is d) (hc : t.cnt ≤ 1073741824) : vh 125 [.dg 2 d] t.valid := fun N Q hQ => by
 refine qN N _ Q fun _ => ?_
 repeat' first|with_reducible intro _|simp only[Y1,Y2,Y3,Y4]|(with_reducible first|refine X1 ?_ ?_|refine X2 ?_ ?_|refine X3 ?_ ?_|refine X4 ?_ ?_|refine X5 ?_ ?_|refine X6 ?_ ?_|refine X7 ?_ ?_|refine X8 ?_ ?_|refine X9 ?_ ?_)|refine⟨_,_,_,rfl,?_⟩|refine⟨_,rfl,?_⟩|((with_reducible refine And.intro ?_ ?_);·first|omega|trivial|(show _=_;rfl)|((with_reducible refine And.intro ?_ ?_)<;>first|omega|trivial|(show _=_;rfl)))|refine (qX t d hd hc) _ _ ?_|refine (rv t d hd hc) _ _ ?_|refine (zI2 t d hd) _ _ ?_|fail
 ·refine Qb (hQ _ (by omega)) ?_
  have h1 : t.cnt ≤ 30 := by omega
  have h2 : t.dep ≤ 8 := by omega
  simp [Ty.valid, *]
 ·refine Qb (hQ _ (by omega)) ?_
  have h2 : ¬ t.dep ≤ 8 := by omega
  simp [Ty.valid, *]
 ·refine Qb (hQ _ (by omega)) ?_
  have h1 : ¬ t.cnt ≤ 30 := by omega
  simp [Ty.valid, *]
theorem xM : ∀ (t u : Ty) (d e : D), t.Is d → u.Is e → vh 143 [.dg 2 d, .dg 2 e] (zHp t u) := by
 refine Ty.ind fun k l ih u d e hd he N Q hQ => ?_
 cases u with
 | mk k' l' =>
 obtain ⟨a, es, c, rfl, hlen, hes⟩ := Ty.is_mk.1 hd
 obtain ⟨a', es', c', rfl, hlen', hes'⟩ := Ty.is_mk.1 he
 have hl := hes.len
 have hl' := hes'.len
 simp only [zHp] at hQ
 have hf : vh 178 [.sv a 2 es c, .sv a' 2 es' c', .fn 143 []] (vk l l') := fun N Q hQ => by
  have key : l.length = l'.length → ∀ (N' : Nat), N ≤ N' → (∀ N'', N' ≤ N'' → Q (vk l (l'.drop 0)) N'') → zQ Q N a' es' c' a es c es.length (0 : Nat) N' := by
   intro hll
   refine up hes hlen (fun i xs => ∀ (N' : Nat), N ≤ N' → (∀ N'', N' ≤ N'' → Q (vk xs (l'.drop i)) N'') → zQ Q N a' es' c' a es c es.length i N') ?_ ?_
   ·intro i hlt hi N' hN' hQ'
    refine xG _ _ _ _ _ _ _ _ _ _ _ ?_
    repeat' first|with_reducible intro _|simp only[hlt,Y1,Y2,Y3,Y4]|(with_reducible first|refine X1 ?_ ?_|refine X2 ?_ ?_|refine X3 ?_ ?_|refine X4 ?_ ?_|refine X5 ?_ ?_|refine X6 ?_ ?_|refine X7 ?_ ?_|refine X8 ?_ ?_|refine X9 ?_ ?_)|refine⟨_,_,_,rfl,?_⟩|refine⟨_,rfl,?_⟩|((with_reducible refine And.intro ?_ ?_);·first|omega|trivial|(show _=_;rfl)|((with_reducible refine And.intro ?_ ?_)<;>first|omega|trivial|(show _=_;rfl)))|fail
    refine Qb (hQ' _ (by assumption)) ?_
    rw [List.drop_eq_nil_of_le (by omega)]
    rfl
   ·intro i x xs hat _ ih2 N' hN' hQ'
    have hb := hat.b
    have hi' : i < l'.length := by omega
    have hg : l'[i]? = some l'[i] := List.getElem?_eq_getElem hi'
    have hd' : l'.drop i = l'[i] :: l'.drop (i + 1) := List.drop_eq_getElem_cons hi'
    refine xG _ _ _ _ _ _ _ _ _ _ _ ?_
    rw [hd'] at hQ'
    repeat' first|with_reducible intro _|simp only[hat.lt, hat.w, Int.toNat_natCast,Y1,Y2,Y3,Y4]|(with_reducible first|refine X1 ?_ ?_|refine X2 ?_ ?_|refine X3 ?_ ?_|refine X4 ?_ ?_|refine X5 ?_ ?_|refine X6 ?_ ?_|refine X7 ?_ ?_|refine X8 ?_ ?_|refine X9 ?_ ?_)|refine⟨_,_,_,rfl,?_⟩|refine⟨_,rfl,?_⟩|((with_reducible refine And.intro ?_ ?_);·first|omega|trivial|(show _=_;rfl)|((with_reducible refine And.intro ?_ ?_)<;>first|omega|trivial|(show _=_;rfl)))|refine (ih x hat.m _ _ _ hat.r (hes'.get hg)) _ _ ?_|fail
    ·exact Qb (hQ' _ (by omega)) (by simp [vk, *])
    ·exact ih2 _ (by omega) fun N'' h => Qb (hQ' N'' (by omega)) (by simp [vk, *])
  refine vK N _ _ _ _ _ _ Q fun _ _ => ?_
  repeat' first|with_reducible intro _|simp only[Y1,Y2,Y3,Y4]|(with_reducible first|refine X1 ?_ ?_|refine X2 ?_ ?_|refine X3 ?_ ?_|refine X4 ?_ ?_|refine X5 ?_ ?_|refine X6 ?_ ?_|refine X7 ?_ ?_|refine X8 ?_ ?_|refine X9 ?_ ?_)|refine⟨_,_,_,rfl,?_⟩|refine⟨_,rfl,?_⟩|((with_reducible refine And.intro ?_ ?_);·first|omega|trivial|(show _=_;rfl)|((with_reducible refine And.intro ?_ ?_)<;>first|omega|trivial|(show _=_;rfl)))|fail
  ·exact Qb (hQ _ (by assumption)) (zBX (by omega))
  ·exact key (by omega) N (Nat.le_refl _) hQ
 refine p8 N _ _ Q fun _ _ => ?_
 repeat' first|with_reducible intro _|simp only[Y1,Y2,Y3,Y4]|(with_reducible first|refine X1 ?_ ?_|refine X2 ?_ ?_|refine X3 ?_ ?_|refine X4 ?_ ?_|refine X5 ?_ ?_|refine X6 ?_ ?_|refine X7 ?_ ?_|refine X8 ?_ ?_|refine X9 ?_ ?_)|refine⟨_,_,_,rfl,?_⟩|refine⟨_,rfl,?_⟩|((with_reducible refine And.intro ?_ ?_);·first|omega|trivial|(show _=_;rfl)|((with_reducible refine And.intro ?_ ?_)<;>first|omega|trivial|(show _=_;rfl)))|refine hf _ _ ?_|fail
 ·exact Qb (hQ _ (by omega)) (by simp [*])
 ·exact Qb (hQ _ (by omega)) (by simp [*])
end Go.Proofs.YtnpjpplbkoammaaGreatDoor

/- The program's functions on terms, levels and contexts. -/
set_option linter.unusedVariables false
set_option linter.unusedSimpArgs false
namespace Go.Proofs.YtnpjpplbkoammaaGreatDoor
open Go Go.Proofs Go.Proofs.Tryz Go.IntWalk

theorem sV (s : ByteArray) : qS 175 [.str s] (zGN s) := fun N Q hQ => by
 refine zB6 N s Q ?_
 repeat' first|with_reducible intro _|simp only[Y1,Y2,Y3,Y4]|(with_reducible first|refine X1 ?_ ?_|refine X2 ?_ ?_|refine X3 ?_ ?_|refine X4 ?_ ?_|refine X5 ?_ ?_|refine X6 ?_ ?_|refine X7 ?_ ?_|refine X8 ?_ ?_|refine X9 ?_ ?_)|refine⟨_,_,_,rfl,?_⟩|refine⟨_,rfl,?_⟩|((with_reducible refine And.intro ?_ ?_);·first|omega|trivial|(show _=_;rfl)|((with_reducible refine And.intro ?_ ?_)<;>first|omega|trivial|(show _=_;rfl)))|fail
 all_goals (refine Qi (hQ _ (by assumption)) ?_; unfold zGN; (repeat' split) <;> first | rfl | contradiction)
def arI (k : Int) (nm : ByteArray) : Int :=
 if k = 4 then zGN nm else if k = 5 then 3 else if k = 7 ∨ k = 8 then 2 else if k = 6 ∨ k = 9 ∨ k = 10 ∨ k = 11 ∨ k = 12 ∨ k = 13 then 1 else 0
theorem zFp {k n : Int} {nm ot : ByteArray} {t0 t1 r0 r1 x : D} : qS 141 [.dg 9 (.ag [.lit (.int .i64 k), .lit (.string nm), .lit (.string ot), .lit (.int .i64 n), t0, t1, r0, r1, x])] (arI k nm) := fun N Q hQ => by
 refine zFW N _ Q fun _ => ?_
 repeat' first|with_reducible intro _|simp only[Y1,Y2,Y3,Y4]|(with_reducible first|refine X1 ?_ ?_|refine X2 ?_ ?_|refine X3 ?_ ?_|refine X4 ?_ ?_|refine X5 ?_ ?_|refine X6 ?_ ?_|refine X7 ?_ ?_|refine X8 ?_ ?_|refine X9 ?_ ?_)|refine⟨_,_,_,rfl,?_⟩|refine⟨_,rfl,?_⟩|((with_reducible refine And.intro ?_ ?_);·first|omega|trivial|(show _=_;rfl)|((with_reducible refine And.intro ?_ ?_)<;>first|omega|trivial|(show _=_;rfl)))|refine (sV _) _ _ ?_|fail
 all_goals (refine Qi (hQ _ (by omega)) ?_; simp [arI, *])
theorem w6 (n : Int) : vh 177 [.int .i64 n] (inB n 0 10006) := fun N Q hQ => by
 refine zAx N n Q ?_
 repeat' first|with_reducible intro _|simp only[Y1,Y2,Y3,Y4]|(with_reducible first|refine X1 ?_ ?_|refine X2 ?_ ?_|refine X3 ?_ ?_|refine X4 ?_ ?_|refine X5 ?_ ?_|refine X6 ?_ ?_|refine X7 ?_ ?_|refine X8 ?_ ?_|refine X9 ?_ ?_)|refine⟨_,_,_,rfl,?_⟩|refine⟨_,rfl,?_⟩|((with_reducible refine And.intro ?_ ?_);·first|omega|trivial|(show _=_;rfl)|((with_reducible refine And.intro ?_ ?_)<;>first|omega|trivial|(show _=_;rfl)))|refine (yx _ _ _) _ _ ?_|fail
 exact hQ _ (by omega)
def zCz (k : Int) (nm ot : ByteArray) (n : Int) (ty re : Ty) : Bool :=
 if k = 1 ∨ k = 8 then sT nm else if k = 2 then inB n 0 10006 else if k = 3 then inB n 0 1 else if k = 4 then decide (zGN nm > 0)
 else if k = 6 then sT nm && ty.valid else if k = 9 then sT nm && (sT ot && (!decide (nm = ot) && (ty.valid && re.valid))) else inB k 1 13
theorem zCE {k n : Int} {nm ot : ByteArray} {ty re : Ty} {t0 t1 r0 r1 x : D} (h : Tm.Hd nm ot ty re t0 t1 r0 r1) (hc : ty.cnt ≤ 1073741824) (hc2 : re.cnt ≤ 1073741824) :
  vh 142 [.dg 9 (.ag [.lit (.int .i64 k), .lit (.string nm), .lit (.string ot), .lit (.int .i64 n), t0, t1, r0, r1, x])] (zCz k nm ot n ty re) := fun N Q hQ => by
 refine zCS N _ Q fun _ => ?_
 repeat' first|with_reducible intro _|simp only[Y1,Y2,Y3,Y4]|(with_reducible first|refine X1 ?_ ?_|refine X2 ?_ ?_|refine X3 ?_ ?_|refine X4 ?_ ?_|refine X5 ?_ ?_|refine X6 ?_ ?_|refine X7 ?_ ?_|refine X8 ?_ ?_|refine X9 ?_ ?_)|refine⟨_,_,_,rfl,?_⟩|refine⟨_,rfl,?_⟩|((with_reducible refine And.intro ?_ ?_);·first|omega|trivial|(show _=_;rfl)|((with_reducible refine And.intro ?_ ?_)<;>first|omega|trivial|(show _=_;rfl)))|refine (sV _) _ _ ?_|refine (rO _ h.nm) _ _ ?_|refine (rO _ h.ot) _ _ ?_|refine (w6 _) _ _ ?_|refine (yx _ _ _) _ _ ?_|refine (vW _ _ h.ty hc) _ _ ?_|refine (vW _ _ h.re hc2) _ _ ?_|fail
 all_goals (refine Qb (hQ _ (by omega)) ?_; simp [zCz, *])
theorem zEy (t : Ty) : zHp t t = true := (zEO t t).2 rfl
def zIc (k : Int) (nm ot : ByteArray) (n : Int) (ty re : Ty) (m : Int) : Bool :=
 decide (m = arI k nm) && (zCz k nm ot n ty re && ((decide (k = 1 ∨ k = 8 ∨ k = 4 ∨ k = 6 ∨ k = 9) || decide (nm = bytes [])) && ((decide (k = 9) || decide (ot = bytes [])) && ((decide (k = 2 ∨ k = 3) || decide (n = 0)) &&
  ((decide (k = 6 ∨ k = 9) || zHp ty tZero) && (decide (k = 9) || zHp re tZero))))))
theorem zCe {k n : Int} {nm ot : ByteArray} {ty re : Ty} {t0 t1 r0 r1 : D} {a : Option Addr} {es : List D} {c : Nat} (h : Tm.Hd nm ot ty re t0 t1 r0 r1) (hc : ty.cnt ≤ 1073741824) (hc2 : re.cnt ≤ 1073741824) :
  vh 106 [.dg 9 (.ag [.lit (.int .i64 k), .lit (.string nm), .lit (.string ot), .lit (.int .i64 n), t0, t1, r0, r1, .sl a 9 es c])] (zIc k nm ot n ty re es.length) := fun N Q hQ => by
 refine zDg N _ Q fun _ => ?_
 repeat' first|with_reducible intro _|simp only[Y1,Y2,Y3,Y4]|(with_reducible first|refine X1 ?_ ?_|refine X2 ?_ ?_|refine X3 ?_ ?_|refine X4 ?_ ?_|refine X5 ?_ ?_|refine X6 ?_ ?_|refine X7 ?_ ?_|refine X8 ?_ ?_|refine X9 ?_ ?_)|refine⟨_,_,_,rfl,?_⟩|refine⟨_,rfl,?_⟩|((with_reducible refine And.intro ?_ ?_);·first|omega|trivial|(show _=_;rfl)|((with_reducible refine And.intro ?_ ?_)<;>first|omega|trivial|(show _=_;rfl)))|refine zFp _ _ ?_|refine (zCE h hc hc2) _ _ ?_|refine (xM ty tZero _ _ h.ty zKY) _ _ ?_|refine (xM re tZero _ _ h.re zKY) _ _ ?_|refine (xM ty ty _ _ h.ty h.ty) _ _ ?_|refine (xM re re _ _ h.re h.re) _ _ ?_|fail
 all_goals first | (exfalso; omega) | (refine Qb (hQ _ (by omega)) ?_; simp [zIc, zEy, *]; done) | (refine Qb (hQ _ (by omega)) ?_; simp_all [zIc, zEy]; done)
theorem zMZ (t : Ty) : zHp t tZero = t.zero := by
 cases t with
 | mk k l => cases l <;> simp [zHp, tZero, vk, Ty.zero, Ty.k, Ty.as]
             try omega
theorem zIl {t : Ty} (h : t.zero = true) : t.valid = false := by
 cases t with
 | mk k l =>
   simp only [Ty.zero, Ty.k, Ty.as, Bool.and_eq_true, beq_iff_eq] at h
   simp [Ty.valid, Ty.form, zFb, h.1]
theorem zPK (n : Int) : inB n 0 0 = decide (n = 0) := by
 rw [Bool.eq_iff_iff, wE, decide_eq_true_iff]; omega
theorem zp (t : Ty) (b : Bool) : (!t.valid && (t.zero && b)) = (t.zero && b) := by
 cases h : t.zero with
 | false => simp
 | true => rw [zIl h]; simp
theorem zLx (k : Int) (nm ot : ByteArray) (n : Int) (ty re : Ty) (m : Int) (hm : 0 ≤ m) : zIc k nm ot n ty re m = (ya k nm ot n ty re && m == zHw k nm) := by
 by_cases hk : k = 1 ∨ k = 2 ∨ k = 3 ∨ k = 4 ∨ k = 5 ∨ k = 6 ∨ k = 7 ∨ k = 8 ∨ k = 9 ∨ k = 10 ∨ k = 11 ∨ k = 12 ∨ k = 13
 ·rw [zOl m]
  have b5 : inB 5 1 13 = true := rfl
  have b7 : inB 7 1 13 = true := rfl
  have b10 : inB 10 1 13 = true := rfl
  have b11 : inB 11 1 13 = true := rfl
  have b12 : inB 12 1 13 = true := rfl
  have b13 : inB 13 1 13 = true := rfl
  rcases hk with rfl | rfl | rfl | rfl | rfl | rfl | rfl | rfl | rfl | rfl | rfl | rfl | rfl
  all_goals
   simp [zIc, arI, zCz, ya, zCy, zAz, zHw, zMZ, zPK, zp, b5, b7, b10, b11, b12, b13]
   try (rw [Bool.eq_iff_iff]; simp [and_comm, and_left_comm, and_assoc])
 ·have h1 : zHw k nm = -1 := by
   unfold zHw; rw [if_neg (by omega), if_neg (by omega), if_neg (by omega), if_neg (by omega), if_neg (by omega)]
  have h2 : inB k 1 13 = false := by
   cases h : inB k 1 13 with
   | false => rfl
   | true => have := wE.1 h; omega
  have h3 : zCz k nm ot n ty re = false := by
   unfold zCz; rw [if_neg (by omega), if_neg (by omega), if_neg (by omega), if_neg (by omega), if_neg (by omega), if_neg (by omega), h2]
  have h4 : (m == zHw k nm) = false := by rw [h1, zOl]; exact decide_eq_false (by omega)
  rw [h4, zIc, h3]
  simp
theorem zL0 {k n : Int} {nm ot : ByteArray} {ty re : Ty} {t0 t1 r0 r1 : D} {a : Option Addr} {es : List D} {c : Nat} (h : Tm.Hd nm ot ty re t0 t1 r0 r1) (hc : ty.cnt ≤ 1073741824) (hc2 : re.cnt ≤ 1073741824) :
  vh 106 [.dg 9 (.ag [.lit (.int .i64 k), .lit (.string nm), .lit (.string ot), .lit (.int .i64 n), t0, t1, r0, r1, .sl a 9 es c])] (ya k nm ot n ty re && (es.length : Int) == zHw k nm) := by
 rw [← zLx _ _ _ _ _ _ _ (by omega)]
 exact zCe h hc hc2
theorem zGD : ∀ l : List Tm, tU l = !(l.any fun x => !x.ok)
 | [] => rfl
 | t :: ts => by simp only [tU, List.any_cons, zGD ts]; cases t.ok <;> simp
theorem zBL {p : Tm → Bool} {l : List Tm} {es : List D} (h : All2 Tm.Is l es) (hlen : es.length ≤ 4611686018427387904) (ad : Addr) (hp : ∀ x ∈ l, ∀ d, x.Is d → vh 124 [.dg 9 d, .pd ad 0 (.fn 106 [])] (p x)) (a : Option Addr) (c : Nat) :
  vh 123 [.sv a 9 es c, .fn 124 [.pd ad 0 (.fn 106 [])]] (l.any p) := fun N Q hQ => by
 have hi : qS 156 [.sv a 9 es c, .fn 124 [.pd ad 0 (.fn 106 [])]] (pW p l 0) := fun N Q hQ => by
  refine vI N a es c ad Q fun _ => ?_
  refine up h hlen (fun i xs => ∀ (N' : Nat), N ≤ N' → (∀ N'', N' ≤ N'' → Q (pW p xs i) N'') → zZ Q N a es c ad es.length i N') ?_ ?_ N (Nat.le_refl _) hQ
  ·intro i hlt _ N' hN' hQ'
   refine xB _ _ _ _ _ _ _ _ _ ?_
   repeat' first|with_reducible intro _|simp only[hlt,Y1,Y2,Y3,Y4]|(with_reducible first|refine X1 ?_ ?_|refine X2 ?_ ?_|refine X3 ?_ ?_|refine X4 ?_ ?_|refine X5 ?_ ?_|refine X6 ?_ ?_|refine X7 ?_ ?_|refine X8 ?_ ?_|refine X9 ?_ ?_)|refine⟨_,_,_,rfl,?_⟩|refine⟨_,rfl,?_⟩|((with_reducible refine And.intro ?_ ?_);·first|omega|trivial|(show _=_;rfl)|((with_reducible refine And.intro ?_ ?_)<;>first|omega|trivial|(show _=_;rfl)))|fail
   exact hQ' _ (by omega)
  ·intro i x xs hat _ ih2 N' hN' hQ'
   have hb := hat.b
   simp only [pW] at hQ'
   refine xB _ _ _ _ _ _ _ _ _ ?_
   repeat' first|with_reducible intro _|simp only[hat.lt, hat.w, Int.toNat_natCast,Y1,Y2,Y3,Y4]|(with_reducible first|refine X1 ?_ ?_|refine X2 ?_ ?_|refine X3 ?_ ?_|refine X4 ?_ ?_|refine X5 ?_ ?_|refine X6 ?_ ?_|refine X7 ?_ ?_|refine X8 ?_ ?_|refine X9 ?_ ?_)|refine⟨_,_,_,rfl,?_⟩|refine⟨_,rfl,?_⟩|((with_reducible refine And.intro ?_ ?_);·first|omega|trivial|(show _=_;rfl)|((with_reducible refine And.intro ?_ ?_)<;>first|omega|trivial|(show _=_;rfl)))|refine (hp x hat.m _ hat.r) _ _ ?_|fail
   ·exact Qi (hQ' _ (by omega)) (by rw [if_pos (by assumption)])
   ·rename_i h; exact ih2 _ (by omega) fun N'' h2 => Qi (hQ' _ (by omega)) (by rw [h]; simp)
 refine wU N a es c ad Q fun _ => ?_
 repeat' first|with_reducible intro _|simp only[Y1,Y2,Y3,Y4]|(with_reducible first|refine X1 ?_ ?_|refine X2 ?_ ?_|refine X3 ?_ ?_|refine X4 ?_ ?_|refine X5 ?_ ?_|refine X6 ?_ ?_|refine X7 ?_ ?_|refine X8 ?_ ?_|refine X9 ?_ ?_)|refine⟨_,_,_,rfl,?_⟩|refine⟨_,rfl,?_⟩|((with_reducible refine And.intro ?_ ?_);·first|omega|trivial|(show _=_;rfl)|((with_reducible refine And.intro ?_ ?_)<;>first|omega|trivial|(show _=_;rfl)))|refine hi _ _ ?_|fail
 exact Qb (hQ _ (by omega)) (qI _ l 0 (by omega)).symm
theorem zIU : ∀ (t : Tm) (d : D), t.Is d → t.cnt ≤ 1073741824 → vh 93 [.dg 9 d, .fn 106 []] t.ok := by
 refine Tm.ind fun k nm ot n ty re l ih d hd hc N Q hQ => ?_
 obtain ⟨t0, t1, r0, r1, a, es, c, rfl, hh, hlen, hes⟩ := Tm.is_mk.1 hd
 have hl := hes.len
 simp only [Tm.cnt] at hc
 refine ru N _ Q fun _ => ?_
 simp only [Tm.ok, zGD, ← hl] at hQ
 repeat' first|with_reducible intro _|simp only[Y1,Y2,Y3,Y4]|(with_reducible first|refine X1 ?_ ?_|refine X2 ?_ ?_|refine X3 ?_ ?_|refine X4 ?_ ?_|refine X5 ?_ ?_|refine X6 ?_ ?_|refine X7 ?_ ?_|refine X8 ?_ ?_|refine X9 ?_ ?_)|refine⟨_,_,_,rfl,?_⟩|refine⟨_,rfl,?_⟩|((with_reducible refine And.intro ?_ ?_);·first|omega|trivial|(show _=_;rfl)|((with_reducible refine And.intro ?_ ?_)<;>first|omega|trivial|(show _=_;rfl)))|refine (zL0 hh (by omega) (by omega)) _ _ ?_|refine (zBL hes hlen _ (fun x hx d hd => fun N Q hQ => sJ N d _ Q fun _ N1 hN1 => ih x hx d hd (by have := yn hx; omega) N1 _ fun N2 hN2 hle N3 hN3 => hQ N3 (by omega)) _ _) _ _ ?_|fail
 ·have h : (ya k nm ot n ty re && (es.length : Int) == zHw k nm) = true := by assumption
  exact Qb (hQ _ (by omega)) (by rw [h, Bool.and_true])
 ·have h : (ya k nm ot n ty re && (es.length : Int) == zHw k nm) = false := by assumption
  exact Qb (hQ _ (by omega)) (by rw [h, Bool.and_false])
theorem uT (t : Tm) (d : D) (hd : t.Is d) (hc : t.cnt ≤ 1073741824) : vh 72 [.dg 9 d] t.ok := fun N Q hQ => by
 refine zDa N _ Q fun _ => ?_
 repeat' first|with_reducible intro _|simp only[Y1,Y2,Y3,Y4]|(with_reducible first|refine X1 ?_ ?_|refine X2 ?_ ?_|refine X3 ?_ ?_|refine X4 ?_ ?_|refine X5 ?_ ?_|refine X6 ?_ ?_|refine X7 ?_ ?_|refine X8 ?_ ?_|refine X9 ?_ ?_)|refine⟨_,_,_,rfl,?_⟩|refine⟨_,rfl,?_⟩|((with_reducible refine And.intro ?_ ?_);·first|omega|trivial|(show _=_;rfl)|((with_reducible refine And.intro ?_ ?_)<;>first|omega|trivial|(show _=_;rfl)))|refine (zIU t d hd hc) _ _ ?_|fail
 exact hQ _ (by omega)
theorem zGQ {k n m : Int} {c1 c2 c4 c5 c6 c7 c8 : D} (h : 0 ≤ m ∧ m ≤ 2) : qS 107 [.dg 9 (.ag [.lit (.int .i64 k), c1, c2, .lit (.int .i64 n), c4, c5, c6, c7, c8]), .int .i64 m] (yT k m) := fun N Q hQ => by
 refine uZ N _ m Q fun _ => ?_
 rw [i64_in (m + 1) (by omega), i64_in (m - 1) (by omega)]
 repeat' first|with_reducible intro _|simp only[Y1,Y2,Y3,Y4]|(with_reducible first|refine X1 ?_ ?_|refine X2 ?_ ?_|refine X3 ?_ ?_|refine X4 ?_ ?_|refine X5 ?_ ?_|refine X6 ?_ ?_|refine X7 ?_ ?_|refine X8 ?_ ?_|refine X9 ?_ ?_)|refine⟨_,_,_,rfl,?_⟩|refine⟨_,rfl,?_⟩|((with_reducible refine And.intro ?_ ?_);·first|omega|trivial|(show _=_;rfl)|((with_reducible refine And.intro ?_ ?_)<;>first|omega|trivial|(show _=_;rfl)))|fail
 all_goals (refine Qi (hQ _ (by omega)) ?_; simp [yT, *])
theorem pO (d : D) (m : Int) : vh 74 [.dg 9 d, .int .i64 m] (inB m 0 2) := fun N Q hQ => by
 refine qu N _ m Q fun _ => ?_
 repeat' first|with_reducible intro _|simp only[Y1,Y2,Y3,Y4]|(with_reducible first|refine X1 ?_ ?_|refine X2 ?_ ?_|refine X3 ?_ ?_|refine X4 ?_ ?_|refine X5 ?_ ?_|refine X6 ?_ ?_|refine X7 ?_ ?_|refine X8 ?_ ?_|refine X9 ?_ ?_)|refine⟨_,_,_,rfl,?_⟩|refine⟨_,rfl,?_⟩|((with_reducible refine And.intro ?_ ?_);·first|omega|trivial|(show _=_;rfl)|((with_reducible refine And.intro ?_ ?_)<;>first|omega|trivial|(show _=_;rfl)))|refine (yx _ _ _) _ _ ?_|fail
 exact hQ _ (by omega)
theorem zLC : ∀ (t : Tm) (d : D), t.Is d → ∀ m : Int, vh 73 [.dg 9 d, .int .i64 m, .fn 74 []] (t.lev m) := by
 refine Tm.ind fun k nm ot n ty re l ih d hd m N Q hQ => ?_
 obtain ⟨t0, t1, r0, r1, a, es, c, rfl, hh, hlen, hes⟩ := Tm.is_mk.1 hd
 have hl := hes.len
 refine pe N _ m Q fun _ => ?_
 cases hin : inB m 0 2 with
 | false =>
   repeat' first|with_reducible intro _|simp only[hin,Y1,Y2,Y3,Y4]|(with_reducible first|refine X1 ?_ ?_|refine X2 ?_ ?_|refine X3 ?_ ?_|refine X4 ?_ ?_|refine X5 ?_ ?_|refine X6 ?_ ?_|refine X7 ?_ ?_|refine X8 ?_ ?_|refine X9 ?_ ?_)|refine⟨_,_,_,rfl,?_⟩|refine⟨_,rfl,?_⟩|((with_reducible refine And.intro ?_ ?_);·first|omega|trivial|(show _=_;rfl)|((with_reducible refine And.intro ?_ ?_)<;>first|omega|trivial|(show _=_;rfl)))|refine (pO _ _) _ _ ?_|fail
   exact Qb (hQ _ (by omega)) (by simp [Tm.lev, hin])
 | true =>
   have hb := wE.1 hin
   have key := up hes hlen (fun i xs => ∀ (N' : Nat), N ≤ N' → (∀ N'', N' ≤ N'' → Q (tX xs (yT k m)) N'') → xj Q N m a es c es.length i (.ag [.lit (.int .i64 k), .lit (.string nm), .lit (.string ot), .lit (.int .i64 n), t0, t1, r0, r1, .sl a 9 es c]) N') ?_ ?_
   ·repeat' first|with_reducible intro _|simp only[hin,Y1,Y2,Y3,Y4]|(with_reducible first|refine X1 ?_ ?_|refine X2 ?_ ?_|refine X3 ?_ ?_|refine X4 ?_ ?_|refine X5 ?_ ?_|refine X6 ?_ ?_|refine X7 ?_ ?_|refine X8 ?_ ?_|refine X9 ?_ ?_)|refine⟨_,_,_,rfl,?_⟩|refine⟨_,rfl,?_⟩|((with_reducible refine And.intro ?_ ?_);·first|omega|trivial|(show _=_;rfl)|((with_reducible refine And.intro ?_ ?_)<;>first|omega|trivial|(show _=_;rfl)))|refine (pO _ _) _ _ ?_|fail
    exact key _ (by omega) fun N'' h => Qb (hQ N'' (by omega)) (by simp [Tm.lev, hin])
   ·intro i hlt _ N' hN' hQ'
    refine tH _ _ _ _ _ _ _ _ _ _ ?_
    repeat' first|with_reducible intro _|simp only[hlt,Y1,Y2,Y3,Y4]|(with_reducible first|refine X1 ?_ ?_|refine X2 ?_ ?_|refine X3 ?_ ?_|refine X4 ?_ ?_|refine X5 ?_ ?_|refine X6 ?_ ?_|refine X7 ?_ ?_|refine X8 ?_ ?_|refine X9 ?_ ?_)|refine⟨_,_,_,rfl,?_⟩|refine⟨_,rfl,?_⟩|((with_reducible refine And.intro ?_ ?_);·first|omega|trivial|(show _=_;rfl)|((with_reducible refine And.intro ?_ ?_)<;>first|omega|trivial|(show _=_;rfl)))|fail
    exact Qb (hQ' _ (by omega)) (by simp [tX])
   ·intro i x xs hat _ ih2 N' hN' hQ'
    have hb2 := hat.b
    refine tH _ _ _ _ _ _ _ _ _ _ ?_
    repeat' first|with_reducible intro _|simp only[hat.lt, hat.w, Int.toNat_natCast,Y1,Y2,Y3,Y4]|(with_reducible first|refine X1 ?_ ?_|refine X2 ?_ ?_|refine X3 ?_ ?_|refine X4 ?_ ?_|refine X5 ?_ ?_|refine X6 ?_ ?_|refine X7 ?_ ?_|refine X8 ?_ ?_|refine X9 ?_ ?_)|refine⟨_,_,_,rfl,?_⟩|refine⟨_,rfl,?_⟩|((with_reducible refine And.intro ?_ ?_);·first|omega|trivial|(show _=_;rfl)|((with_reducible refine And.intro ?_ ?_)<;>first|omega|trivial|(show _=_;rfl)))|refine (zGQ hb) _ _ ?_|refine (ih x hat.m _ hat.r _) _ _ ?_|fail
    ·refine Qb (hQ' _ (by omega)) ?_; simp [tX, *]
    ·exact ih2 _ (by omega) fun N'' h => Qb (hQ' N'' (by omega)) (by simp [tX, *])
theorem u4 (t : Tm) (d : D) (hd : t.Is d) (hc : t.cnt ≤ 1073741824) (m : Int) : vh 39 [.dg 9 d, .int .i64 m] (zD9 t m) := fun N Q hQ => by
 refine zBx N _ m Q fun _ => ?_
 repeat' first|with_reducible intro _|simp only[Y1,Y2,Y3,Y4]|(with_reducible first|refine X1 ?_ ?_|refine X2 ?_ ?_|refine X3 ?_ ?_|refine X4 ?_ ?_|refine X5 ?_ ?_|refine X6 ?_ ?_|refine X7 ?_ ?_|refine X8 ?_ ?_|refine X9 ?_ ?_)|refine⟨_,_,_,rfl,?_⟩|refine⟨_,rfl,?_⟩|((with_reducible refine And.intro ?_ ?_);·first|omega|trivial|(show _=_;rfl)|((with_reducible refine And.intro ?_ ?_)<;>first|omega|trivial|(show _=_;rfl)))|refine (uT t d hd hc) _ _ ?_|refine (zLC t d hd m) _ _ ?_|fail
 all_goals (refine Qb (hQ _ (by omega)) ?_; simp [zD9, *])
end Go.Proofs.YtnpjpplbkoammaaGreatDoor

/- The program's functions that make types and contexts. -/
set_option linter.unusedVariables false
set_option linter.unusedSimpArgs false
namespace Go.Proofs.YtnpjpplbkoammaaGreatDoor
open Go Go.Proofs Go.Proofs.Tryz Go.IntWalk

theorem zOB : ∀ (t : Ty) (d : D), t.Is d → t.cnt ≤ 1073741824 → zOR 110 [.dg 2 d] t := by
 refine Ty.ind fun k l ih d hd hc N Q hQ => ?_
 obtain ⟨a, es, c, rfl, hlen, hes⟩ := Ty.is_mk.1 hd
 have hl := hes.len
 simp only [Ty.cnt] at hc
 have hlc := uK l
 refine zAw N _ Q fun _ => ⟨_, rfl, _, _, _, rfl, ?_⟩
 have key := up hes hlen (fun i xs => ∀ (N' : Nat), N ≤ N' → (i = 0 → xz Q N a es c es.length i 0 none [] 0 k none [] 0 N') ∧ ∀ (m q : Nat) (r : List D), m = r.length → All2 Ty.Is (l.take i) r → OwnL N N' r →
  yP Q N a es c es.length i 0 none [] 0 k m q r q N') ?_ ?_
 ·exact (key N (Nat.le_refl _)).1 rfl
 ·intro i hlt hi N' hN'
  refine ⟨fun h0 => vn _ _ _ _ _ _ _ _ _ _ _ _ _ _ _ _ ?_, fun m q r hm hr ho => wb _ _ _ _ _ _ _ _ _ _ _ _ _ _ _ _ _ ?_⟩
  ·repeat' first|with_reducible intro _|simp only[hlt,Y1,Y2,Y3,Y4]|(with_reducible first|refine X1 ?_ ?_|refine X2 ?_ ?_|refine X3 ?_ ?_|refine X4 ?_ ?_|refine X5 ?_ ?_|refine X6 ?_ ?_|refine X7 ?_ ?_|refine X8 ?_ ?_|refine X9 ?_ ?_)|refine⟨_,_,_,rfl,?_⟩|refine⟨_,rfl,?_⟩|((with_reducible refine And.intro ?_ ?_);·first|omega|trivial|(show _=_;rfl)|((with_reducible refine And.intro ?_ ?_)<;>first|omega|trivial|(show _=_;rfl)))|fail
   have : l = [] := List.eq_nil_of_length_eq_zero (by omega)
   subst this
   exact hQ _ _ (by omega) (rj _) zI8
  ·repeat' first|with_reducible intro _|simp only[hlt,Y1,Y2,Y3,Y4]|(with_reducible first|refine X1 ?_ ?_|refine X2 ?_ ?_|refine X3 ?_ ?_|refine X4 ?_ ?_|refine X5 ?_ ?_|refine X6 ?_ ?_|refine X7 ?_ ?_|refine X8 ?_ ?_|refine X9 ?_ ?_)|refine⟨_,_,_,rfl,?_⟩|refine⟨_,rfl,?_⟩|((with_reducible refine And.intro ?_ ?_);·first|omega|trivial|(show _=_;rfl)|((with_reducible refine And.intro ?_ ?_)<;>first|omega|trivial|(show _=_;rfl)))|fail
   rename_i a' N3 hN3 hf N4 hN4
   rw [List.take_of_length_le (by omega)] at hr
   exact hQ _ _ (by omega) (Ty.is_mk.2 ⟨_, _, _, rfl, by have := hr.len; omega, hr⟩) (zCs (yD (xK ((zCt ho hf (by omega)).mono (Nat.le_refl _) hN4))))
 ·intro i x xs hat _ ih2 N' hN'
  have hb := hat.b
  have hxc := wC hat.m
  refine ⟨fun h0 => vn _ _ _ _ _ _ _ _ _ _ _ _ _ _ _ _ ?_, fun m q r hm hr ho => wb _ _ _ _ _ _ _ _ _ _ _ _ _ _ _ _ _ ?_⟩
  ·repeat' first|with_reducible intro _|simp only[hat.lt, hat.w, Int.toNat_natCast,Y1,Y2,Y3,Y4]|(with_reducible first|refine X1 ?_ ?_|refine X2 ?_ ?_|refine X3 ?_ ?_|refine X4 ?_ ?_|refine X5 ?_ ?_|refine X6 ?_ ?_|refine X7 ?_ ?_|refine X8 ?_ ?_|refine X9 ?_ ?_)|refine⟨_,_,_,rfl,?_⟩|refine⟨_,rfl,?_⟩|((with_reducible refine And.intro ?_ ?_);·first|omega|trivial|(show _=_;rfl)|((with_reducible refine And.intro ?_ ?_)<;>first|omega|trivial|(show _=_;rfl)))|refine (ih x hat.m _ hat.r (by omega)) _ _ ?_|fail
   rename_i N2 hN2 d' N3 hN3 hx hox hle hbel
   subst h0
   exact ⟨by unfold zL; simp, fun c2 => (ih2 _ (by omega)).2 _ _ _ rfl (by rw [xT hat.g]; exact ⟨_, _, rfl, hx, rfl⟩) (xK (hox.mono (by omega) (Nat.le_refl _)))⟩
  ·repeat' first|with_reducible intro _|simp only[hat.lt, hat.w, Int.toNat_natCast,Y1,Y2,Y3,Y4]|(with_reducible first|refine X1 ?_ ?_|refine X2 ?_ ?_|refine X3 ?_ ?_|refine X4 ?_ ?_|refine X5 ?_ ?_|refine X6 ?_ ?_|refine X7 ?_ ?_|refine X8 ?_ ?_|refine X9 ?_ ?_)|refine⟨_,_,_,rfl,?_⟩|refine⟨_,rfl,?_⟩|((with_reducible refine And.intro ?_ ?_);·first|omega|trivial|(show _=_;rfl)|((with_reducible refine And.intro ?_ ?_)<;>first|omega|trivial|(show _=_;rfl)))|refine (ih x hat.m _ hat.r (by omega)) _ _ ?_|fail
   rename_i N2 hN2 d' N3 hN3 hx hox hle hbel
   have hrl := hr.len
   have hli : (l.take i).length = i := by rw [List.length_take]; omega
   refine ⟨by unfold zL; simp only [List.length_append, List.length_singleton]; omega, fun c2 => ?_⟩
   exact (ih2 _ (by omega)).2 _ _ _ rfl (by rw [xT hat.g]; exact hr.snoc hx) (yK (ho.mono (Nat.le_refl _) hN2) (xK hox) (by omega) hN3)
theorem vC {a : Option Addr} {z c : Nat} {es : List D} : ∀ x ∈ (D.sl a z es c).foot, x ∈ zB es ∨ ∃ ad, a = some ad ∧ x = ad.block := by
 intro x hx
 cases a with
 | none => simp only [D.foot] at hx; exact .inl hx
 | some ad =>
   simp only [D.foot] at hx
   split at hx
   ·simp at hx
   ·rcases List.mem_cons.1 hx with rfl | hx
    ·exact .inr ⟨ad, rfl, rfl⟩
    ·exact .inl hx
end Go.Proofs.YtnpjpplbkoammaaGreatDoor

/- The program's typing. -/
set_option linter.unusedVariables false
set_option linter.unusedSimpArgs false
namespace Go.Proofs.YtnpjpplbkoammaaGreatDoor
open Go Go.Proofs Go.Proofs.Tryz Go.IntWalk

theorem zD5 {bs : List (Option Addr)} {N N' : Nat} {d : D} (hb : ua N bs) (ho : Own N N' d) : Off bs d := fun a ha ad had hm => by
 have := hb a ha ad had
 have := ho.lo _ hm
 omega
end Go.Proofs.YtnpjpplbkoammaaGreatDoor

/- The program's typing: forms. -/
set_option linter.unusedVariables false
set_option linter.unusedSimpArgs false
namespace Go.Proofs.YtnpjpplbkoammaaGreatDoor
open Go Go.Proofs Go.Proofs.Tryz Go.IntWalk

end Go.Proofs.YtnpjpplbkoammaaGreatDoor

/- The program's typing: binders, stages, operations. -/
set_option linter.unusedVariables false
set_option linter.unusedSimpArgs false
namespace Go.Proofs.YtnpjpplbkoammaaGreatDoor
open Go Go.Proofs Go.Proofs.Tryz Go.IntWalk

end Go.Proofs.YtnpjpplbkoammaaGreatDoor

/- The program's TypeOf. -/
set_option linter.unusedVariables false
set_option linter.unusedSimpArgs false
namespace Go.Proofs.YtnpjpplbkoammaaGreatDoor
open Go Go.Proofs Go.Proofs.Tryz Go.IntWalk

end Go.Proofs.YtnpjpplbkoammaaGreatDoor

/- Bodies, as the reference has them: sizes and depths of terms, parameters, the type of a body. -/
set_option linter.unusedVariables false
set_option linter.unusedSimpArgs false
namespace Go.Proofs.YtnpjpplbkoammaaGreatDoor
open Go Go.Proofs Go.Proofs.Tryz Go.IntWalk

mutual
def Tm.sz : Tm → Nat
 | .mk _ _ _ _ _ _ l => 1 + zIy l
def zIy : List Tm → Nat
 | [] => 0
 | t :: ts => t.sz + zIy ts
end
mutual
def Tm.dp : Tm → Nat
 | .mk _ _ _ _ _ _ l => zAG l + 1
def zAG : List Tm → Nat
 | [] => 0
 | t :: ts => max t.dp (zAG ts)
end
mutual
theorem Tm.dp_cnt : ∀ t : Tm, t.dp ≤ t.cnt
 | .mk _ _ _ _ ty re l => by simp only [Tm.dp, Tm.cnt]; have := zFq l; omega
theorem zFq : ∀ l : List Tm, zAG l ≤ zI l
 | [] => Nat.le_refl _
 | t :: ts => by simp only [zAG, zI]; have := t.dp_cnt; have := zFq ts; omega
end
/-- one form of a body's nodes -/
def zOy (k : Int) : Bool := inB k 1 5 || k == 8
mutual
def Tm.isB : Tm → Bool
 | .mk k _ _ _ _ _ l => zPG l && zOy k
def zPG : List Tm → Bool
 | [] => true
 | t :: ts => t.isB && zPG ts
end
def Tm.vd (t : Tm) : Bool := decide (t.sz ≤ 80) && decide (t.dp ≤ 20) && t.ok

theorem ye (l : List ByteArray) (hl : l.length ≤ 4611686018427387904) (a : Option Addr) (c : Nat) (s : ByteArray) : qS 121 [.sv a 0 (zA l) c, .str s] (pW (fun x => decide (x = s)) l 0) := fun N Q hQ => by
 have hes := yr l
 have hlen : (zA l).length ≤ 4611686018427387904 := by rw [hes.len]; exact hl
 refine zCB N a _ c s Q fun _ => ?_
 refine up hes hlen (fun i xs => ∀ (N' : Nat), N ≤ N' → (∀ N'', N' ≤ N'' → Q (pW (fun x => decide (x = s)) xs i) N'') → xJ Q N a (zA l) c s i N') ?_ ?_ N (Nat.le_refl _) hQ
 ·intro i hlt _ N' hN' hQ'
  refine ub _ _ _ _ _ _ _ _ ?_
  repeat' first|with_reducible intro _|simp only[hlt,Y1,Y2,Y3,Y4]|(with_reducible first|refine X1 ?_ ?_|refine X2 ?_ ?_|refine X3 ?_ ?_|refine X4 ?_ ?_|refine X5 ?_ ?_|refine X6 ?_ ?_|refine X7 ?_ ?_|refine X8 ?_ ?_|refine X9 ?_ ?_)|refine⟨_,_,_,rfl,?_⟩|refine⟨_,rfl,?_⟩|((with_reducible refine And.intro ?_ ?_);·first|omega|trivial|(show _=_;rfl)|((with_reducible refine And.intro ?_ ?_)<;>first|omega|trivial|(show _=_;rfl)))|fail
  exact hQ' _ (by omega)
 ·intro i x xs hat _ ih2 N' hN' hQ'
  have hb := hat.b
  have hr := hat.r
  simp only [pW] at hQ'
  refine ub _ _ _ _ _ _ _ _ ?_
  repeat' first|with_reducible intro _|simp only[hat.lt, hat.w, Int.toNat_natCast, hr,Y1,Y2,Y3,Y4]|(with_reducible first|refine X1 ?_ ?_|refine X2 ?_ ?_|refine X3 ?_ ?_|refine X4 ?_ ?_|refine X5 ?_ ?_|refine X6 ?_ ?_|refine X7 ?_ ?_|refine X8 ?_ ?_|refine X9 ?_ ?_)|refine⟨_,_,_,rfl,?_⟩|refine⟨_,rfl,?_⟩|((with_reducible refine And.intro ?_ ?_);·first|omega|trivial|(show _=_;rfl)|((with_reducible refine And.intro ?_ ?_)<;>first|omega|trivial|(show _=_;rfl)))|fail
  ·rename_i h _ _; subst h; exact Qi (hQ' _ (by omega)) (by simp)
  ·rename_i h; exact ih2 _ hN' fun N'' h2 => Qi (hQ' _ h2) (by rw [if_neg (by simpa using h)]; simp)
theorem xy (l : List ByteArray) (s : ByteArray) : zA l ++ [.lit (.string s)] = zA (l ++ [s]) := by simp [zA]
theorem zH (l : List ByteArray) : (zA l).length = l.length := by simp [zA]
end Go.Proofs.YtnpjpplbkoammaaGreatDoor
