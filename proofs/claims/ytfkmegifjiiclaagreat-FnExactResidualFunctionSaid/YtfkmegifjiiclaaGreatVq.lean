/- The program's typing. -/
import Derived.Test.YtfkmegifjiiclaaGreatVp
set_option linter.unusedVariables false
set_option linter.unusedSimpArgs false
namespace Go.Proofs.YtfkmegifjiiclaaGreat
open Go Go.Proofs Go.Proofs.Tryz Go.IntWalk

theorem tu {bs : List (Option Addr)} {N N' : Nat} {d : D} (hb : rY N bs) (ho : Own N N' d) : Off bs d := fun a ha ad had hm => by
 have := hb a ha ad had
 have := ho.lo _ hm
 omega
theorem zGA {a x b : Option Addr} {es fs gs : List D} {c c' N : Nat} (h1 : ApA a fs) (h2 : Off [a] (.sl x 4 es c)) (h3 : rY N [a]) (h4 : ∀ y ∈ (D.sl b 4 gs c').foot, y ∈ zA es ∨ y ∈ zA fs ∨ N ≤ y) : Off [a] (.sl b 4 gs c') := fun a' ha ad had hm => by
 have e := List.mem_singleton.1 ha
 subst e
 rcases h4 _ hm with h | h | h
 ·exact h2 a' ha ad had (zNA _ h)
 ·obtain ⟨d, hd, hx⟩ := zI.1 h
  exact h1 ad had d hd hx
 ·have := h3 a' ha ad had
  omega
theorem Ty.valid_k {t : Ty} (h : t.valid = true) : t.k = 1 ∧ t.as = [] ∨ t.k = 2 ∧ t.as = [] ∨ (t.k = 3 ∧ ∃ a b, t.as = [a, b]) ∨ (t.k = 4 ∧ ∃ a, t.as = [a]) := by
 cases t with
 | mk k l =>
   have hf := Ty.form_len h
   simp only [Ty.k, Ty.as]
   unfold rr at hf
   split at hf
   ·rename_i hk
    have hl : l = [] := by simpa using hf
    rcases hk with hk | hk
    ·exact .inl ⟨hk, hl⟩
    ·exact .inr (.inl ⟨hk, hl⟩)
   ·split at hf
    ·rename_i hk; exact .inr (.inr (.inl ⟨hk, zKV (by simp at hf; omega)⟩))
    ·split at hf
     ·rename_i hk; exact .inr (.inr (.inr ⟨hk, zBK (by simp at hf; omega)⟩))
     ·cases hf
theorem Ty.valid_nz {t : Ty} (h : t.valid = true) : t.k ≠ 0 := by
 rcases Ty.valid_k h with h | h | h | h <;> omega
theorem zMO {t : Ty} (h : t.valid = true) : uP t tZero = false ∧ uP tZero t = false := by
 have hk := Ty.valid_nz h
 cases t with
 | mk k l =>
   have hk : k ≠ 0 := hk
   have hk2 : 0 ≠ k := fun h => hk h.symm
   constructor <;> simp [uP, tZero, hk, hk2]
theorem zMk {t : Ty} (h : t.valid = true) : uP t tBool = decide (t.k = 2) := by
 have hk := Ty.valid_k h
 cases t with
 | mk k l =>
   simp only [Ty.k, Ty.as] at hk
   rw [Bool.eq_iff_iff, tS, decide_eq_true_iff]
   simp only [tBool, Ty.k, Ty.mk.injEq]
   rcases hk with ⟨hk, hl⟩ | ⟨hk, hl⟩ | ⟨hk, _⟩ | ⟨hk, _⟩ <;> simp [hk]
   exact hl
theorem zPY {t : Ty} (h : t.valid = true) : uP t tInt = decide (t.k = 1) := by
 have hk := Ty.valid_k h
 cases t with
 | mk k l =>
   simp only [Ty.k, Ty.as] at hk
   rw [Bool.eq_iff_iff, tS, decide_eq_true_iff]
   simp only [tInt, Ty.k, Ty.mk.injEq]
   rcases hk with ⟨hk, hl⟩ | ⟨hk, hl⟩ | ⟨hk, _⟩ | ⟨hk, _⟩ <;> simp [hk]
   exact hl

/-- the type of a term, the zero type for none -/
def tyZ (e : Tm) (g : List Tg) (n : Int) : Ty := (e.type g n).getD tZero
theorem zFt (e : Tm) (g : List Tg) (n : Int) : (tyZ e g n).cnt ≤ 30 := zGz e g n
theorem uk (e : Tm) (g : List Tg) (n : Int) : (e.type g n = none ∧ tyZ e g n = tZero) ∨ (e.type g n = some (tyZ e g n) ∧ (tyZ e g n).valid = true) := by
 cases h : e.type g n with
 | none => exact .inl ⟨rfl, by simp [tyZ, h]⟩
 | some t => exact .inr ⟨by simp [tyZ, h], by simpa [tyZ, h] using Tm.type_valid h⟩
def IHi (l : List Tm) : Prop := ∀ x ∈ l, ∀ d, x.Is d → ∀ g es a c n, Pre g x n → Ctx g es → zBE 120 [.sv a 4 es c, .dg 9 d, .int .i64 n] (tyZ x g n)

theorem zC0 {k : Int} {nm ot : ByteArray} {m n : Int} {ty re : Ty} {l : List Tm} {t0 t1 r0 r1 : D} {es1 : List D} {a1 a : Option Addr} {c1 c : Nat} {g : List Tg} {es : List D} (hk : zu k n = n) (ih : IHi l) (h0 : All2 Tm.Is l es1) (hl1 : es1.length ≤ 4611686018427387904)
  (pre : Pre g (.mk k nm ot m ty re l) n) (ctx : Ctx g es) (i : Nat) {x : Tm} (hx : l[i]? = some x) (b1 b2 b3 : Addr) :
  zBE 199 [.int .i64 i, .pd b1 0 (.sl a 4 es c), .pd b2 9 (.ag [.lit (.int .i64 k), .lit (.string nm), .lit (.string ot), .lit (.int .i64 m), t0, t1, r0, r1, .sl a1 9 es1 c1]), .pd b3 0 (.lit (.int .i64 n))] (tyZ x g n) := fun N Q hQ => by
 have hil := (List.getElem?_eq_some_iff.1 hx).1
 have hln := h0.len
 have hm := List.mem_of_getElem? hx
 have hp := pre.sub hm (g' := g) (by omega) pre.ty
 rw [hk] at hp
 refine rq N i b1 _ b2 _ b3 _ Q ?_
 refine ⟨_, _, _, rfl, _, _, _, rfl, ⟨by omega, by omega⟩, _, rfl, ?_⟩
 repeat' first|with_reducible intro _|simp only[Int.toNat_natCast,Y1,Y2,Y3,Y4]|(with_reducible first|refine X1 ?_ ?_|refine X2 ?_ ?_|refine X3 ?_ ?_|refine X4 ?_ ?_|refine X5 ?_ ?_|refine X6 ?_ ?_|refine X7 ?_ ?_|refine X8 ?_ ?_|refine X9 ?_ ?_)|refine⟨_,_,_,rfl,?_⟩|refine⟨_,rfl,?_⟩|((with_reducible refine And.intro ?_ ?_);·first|omega|trivial|(show _=_;rfl)|((with_reducible refine And.intro ?_ ?_)<;>first|omega|trivial|(show _=_;rfl)))|refine (ih x hm _ (h0.get hx) g _ _ _ n hp ctx) _ _ ?_|fail
 exact hQ _ _ (by omega) (by assumption) (Own.mono (by assumption) (by omega) (by omega))

theorem zQ1 {e0 e1 e2 : Tm} {g : List Tg} {n : Int} {s : ByteArray} : ((match ze [e0, e1, e2] g n with | some ts => yV 5 s ts | none => none) : Option Ty).getD tZero =
  if uP (tyZ e0 g n) tBool && uP (tyZ e1 g n) (tyZ e2 g n) then tyZ e1 g n else tZero := by
 rcases uk e0 g n with ⟨h0, z0⟩ | ⟨h0, v0⟩
 ·simp only [ze, h0, z0]; rfl
 ·rcases uk e1 g n with ⟨h1, z1⟩ | ⟨h1, v1⟩
  ·simp only [ze, h0, h1, z1]; split <;> rfl
  ·rcases uk e2 g n with ⟨h2, z2⟩ | ⟨h2, v2⟩
   ·simp only [ze, h0, h1, h2, z2, (zMO v1).1, Bool.and_false]; rfl
   ·simp only [ze, h0, h1, h2]
    rw [zMk v0]
    show (yV 5 s [tyZ e0 g n, tyZ e1 g n, tyZ e2 g n]).getD tZero = _
    unfold yV
    rw [if_neg (by omega), if_pos rfl]
    simp only [List.getD_cons_zero, List.getD_cons_succ]
    by_cases hc : (tyZ e0 g n).k = 2 ∧ uP (tyZ e1 g n) (tyZ e2 g n) = true
    ·rw [if_pos hc, if_pos (by simp [hc.1, hc.2])]; rfl
    ·rw [if_neg hc, if_neg (by simpa using hc)]; rfl
theorem zQT {e0 e1 : Tm} {g : List Tg} {n : Int} {s : ByteArray} : ((match ze [e0, e1] g n with | some ts => yV 7 s ts | none => none) : Option Ty).getD tZero =
  if (tyZ e0 g n).k = 3 ∧ uP ((tyZ e0 g n).as.getD 0 tZero) (tyZ e1 g n) then (tyZ e0 g n).as.getD 1 tZero else tZero := by
 rcases uk e0 g n with ⟨h0, z0⟩ | ⟨h0, v0⟩
 ·simp only [ze, h0, z0]; rfl
 ·rcases uk e1 g n with ⟨h1, z1⟩ | ⟨h1, v1⟩
  ·simp only [ze, h0, h1, z1]
   rw [if_neg]
   ·rfl
   ·rintro ⟨hk, he⟩
    rcases Ty.valid_k v0 with h | h | ⟨_, a, b, hab⟩ | h
    ·omega
    ·omega
    ·rw [hab, tS] at he
     simp only [List.getD_cons_zero] at he
     subst he
     have : (tyZ e0 g n).form = true := by simp only [Ty.valid, Bool.and_eq_true] at v0; exact v0.2
     cases hz : tyZ e0 g n with
     | mk k l =>
       rw [hz] at hab this
       simp only [Ty.as] at hab
       subst hab
       simp [Ty.form, uV, rr, tZero] at this
    ·omega
  ·simp only [ze, h0, h1]
   show (yV 7 s [tyZ e0 g n, tyZ e1 g n]).getD tZero = _
   unfold yV
   rw [if_neg (by omega), if_neg (by omega)]
   simp only [List.getD_cons_zero, List.getD_cons_succ]
   split <;> rfl
theorem zQo {l : List Tm} {g : List Tg} {n : Int} {s : ByteArray} (hs : 0 < zIx s) : ((match ze l g n with | some ts => yV 4 s ts | none => none) : Option Ty).getD tZero =
  if zAY (qU s) (l.map fun e => tyZ e g n) then zBH s else tZero := by
 have h2 : zBH s = zBZ s ∧ (qU s = tInt ∧ zIP s = 1 ∨ qU s = tBool ∧ zIP s = 2) := by
  unfold zIx at hs
  (repeat' split at hs) <;> first | omega | (subst_vars; exact ⟨rfl, .inl ⟨rfl, rfl⟩⟩) | (subst_vars; exact ⟨rfl, .inr ⟨rfl, rfl⟩⟩) | skip
 obtain ⟨h3, h4⟩ := h2
 have key : ∀ l : List Tm, (∀ ts, ze l g n = some ts → zAY (qU s) (l.map fun e => tyZ e g n) = zNd (zIP s) ts) ∧ (ze l g n = none → zAY (qU s) (l.map fun e => tyZ e g n) = false) := by
  intro l
  induction l with
  | nil => exact ⟨fun ts h => by simp [ze] at h; subst h; rfl, fun h => by simp [ze] at h⟩
  | cons e l ih =>
    rcases uk e g n with ⟨h0, z0⟩ | ⟨h0, v0⟩
    ·have : uP tZero (qU s) = false := by rcases h4 with ⟨h4, _⟩ | ⟨h4, _⟩ <;> rw [h4] <;> rfl
     refine ⟨fun ts h => by simp [ze, h0] at h, fun _ => by simp [zAY, z0, this]⟩
    ·have hk : uP (tyZ e g n) (qU s) = decide ((tyZ e g n).k = zIP s) := by
      rcases h4 with ⟨h4, h5⟩ | ⟨h4, h5⟩ <;> rw [h4, h5]
      ·exact zPY v0
      ·exact zMk v0
     cases hl : ze l g n with
     | none => exact ⟨fun ts h => by simp [ze, h0, hl] at h, fun _ => by simp [zAY, ih.2 hl]⟩
     | some us =>
       refine ⟨fun ts h => ?_, fun h => by simp [ze, h0, hl] at h⟩
       simp only [ze, h0, hl, Option.some.injEq] at h
       subst h
       simp only [List.map_cons, zAY, zNd, hk, ih.1 us hl]
 cases hl : ze l g n with
 | none => rw [(key l).2 hl]; rfl
 | some ts =>
   rw [(key l).1 ts hl, h3]
   show (yV 4 s ts).getD tZero = _
   unfold yV zN5
   rw [if_pos rfl]
   split <;> rfl
end Go.Proofs.YtfkmegifjiiclaaGreat

/- The program's typing: forms. -/
set_option linter.unusedVariables false
set_option linter.unusedSimpArgs false
namespace Go.Proofs.YtfkmegifjiiclaaGreat
open Go Go.Proofs Go.Proofs.Tryz Go.IntWalk

/-- a node's cells -/
abbrev zD8 (k : Int) (nm ot : ByteArray) (m : Int) (t0 t1 r0 r1 : D) (a : Option Addr) (es : List D) (c : Nat) : D := .ag [.lit (.int .i64 k), .lit (.string nm), .lit (.string ot), .lit (.int .i64 m), t0, t1, r0, r1, .sl a 9 es c]
theorem f5 {nm ot : ByteArray} {m n : Int} {ty re : Ty} {l : List Tm} {t0 t1 r0 r1 : D} {es1 : List D} {a1 a : Option Addr} {c1 c : Nat} {g : List Tg} {es : List D} (ih : IHi l) (hh : Tm.Hd nm ot ty re t0 t1 r0 r1) (h0 : All2 Tm.Is l es1) (hl1 : es1.length ≤ 4611686018427387904)
  (pre : Pre g (.mk 5 nm ot m ty re l) n) (ctx : Ctx g es) :
  zBE 160 [.sv a 4 es c, .dg 9 (zD8 5 nm ot m t0 t1 r0 r1 a1 es1 c1), .int .i64 n] ((Tm.raw (.mk 5 nm ot m ty re l) g n).getD tZero) := fun N Q hQ => by
 have hl : l.length = 3 := by have : (l.length : Int) = 3 := (za pre.ok).ar
                              omega
 obtain ⟨e0, e1, e2, rfl⟩ : ∃ a b c, l = [a, b, c] := by
  match l, hl with
  | [a, b, c], _ => exact ⟨a, b, c, rfl⟩
 have hraw : (Tm.raw (.mk 5 nm ot m ty re [e0, e1, e2]) g n).getD tZero = if uP (tyZ e0 g n) tBool && uP (tyZ e1 g n) (tyZ e2 g n) then tyZ e1 g n else tZero := by
  rw [← zQ1 (s := nm)]
  simp only [Tm.raw]
  rfl
 rw [hraw] at hQ
 have hn : zu 5 n = n := by simp [zu]
 refine zT N a es c _ n Q fun _ _ => ⟨_, rfl, ?_⟩
 repeat' first|with_reducible intro _|simp only[Y1,Y2,Y3,Y4]|(with_reducible first|refine X1 ?_ ?_|refine X2 ?_ ?_|refine X3 ?_ ?_|refine X4 ?_ ?_|refine X5 ?_ ?_|refine X6 ?_ ?_|refine X7 ?_ ?_|refine X8 ?_ ?_|refine X9 ?_ ?_)|refine⟨_,_,_,rfl,?_⟩|refine⟨_,rfl,?_⟩|((with_reducible refine And.intro ?_ ?_);·first|omega|trivial|(show _=_;rfl)|((with_reducible refine And.intro ?_ ?_)<;>first|omega|trivial|(show _=_;rfl)))|refine (zC0 hn ih h0 hl1 pre ctx 1 rfl _ _ _) _ _ ?_|refine (zC0 hn ih h0 hl1 pre ctx 2 rfl _ _ _) _ _ ?_|refine (zC0 hn ih h0 hl1 pre ctx 0 rfl _ _ _) _ _ ?_|refine zFZ _ _ ?_|refine (zV (tyZ e0 g n) tBool _ _ (by assumption) (by assumption)) _ _ ?_|refine (zV (tyZ e1 g n) (tyZ e2 g n) _ _ (by assumption) (by assumption)) _ _ ?_|(((with_reducible refine And.intro ?_ ?_); · exact tu (by assumption) (by assumption)))|fail
 all_goals first | (exfalso; omega) | skip
 all_goals first
  | exact hQ _ _ (by omega) (by rw [if_pos (by simp [*])]; assumption) (Own.mono (by assumption) (by omega) (by omega))
  | exact hQ _ _ (by omega) (by rw [if_neg (by simp [*])]; exact yo) yA
/-- the type of a call -/
def zL6 (z0 z1 : Ty) : Ty := if z0.k = 3 ∧ uP (z0.as.getD 0 tZero) z1 then z0.as.getD 1 tZero else tZero
theorem f7 {nm ot : ByteArray} {m n : Int} {ty re : Ty} {l : List Tm} {t0 t1 r0 r1 : D} {es1 : List D} {a1 a : Option Addr} {c1 c : Nat} {g : List Tg} {es : List D} (ih : IHi l) (hh : Tm.Hd nm ot ty re t0 t1 r0 r1) (h0 : All2 Tm.Is l es1) (hl1 : es1.length ≤ 4611686018427387904)
  (pre : Pre g (.mk 7 nm ot m ty re l) n) (ctx : Ctx g es) :
  zBE 160 [.sv a 4 es c, .dg 9 (zD8 7 nm ot m t0 t1 r0 r1 a1 es1 c1), .int .i64 n] ((Tm.raw (.mk 7 nm ot m ty re l) g n).getD tZero) := fun N Q hQ => by
 have hl : l.length = 2 := by have : (l.length : Int) = 2 := (za pre.ok).ar
                              omega
 obtain ⟨e0, e1, rfl⟩ := zKV hl
 have hraw : (Tm.raw (.mk 7 nm ot m ty re [e0, e1]) g n).getD tZero = zL6 (tyZ e0 g n) (tyZ e1 g n) := by
  unfold zL6
  rw [← zQT (s := nm)]
  simp only [Tm.raw]
  rfl
 rw [hraw] at hQ
 have hn : zu 7 n = n := by simp [zu]
 refine zT N a es c _ n Q fun _ _ => ⟨_, rfl, ?_⟩
 repeat' first|with_reducible intro _|simp only[Y1,Y2,Y3,Y4]|(with_reducible first|refine X1 ?_ ?_|refine X2 ?_ ?_|refine X3 ?_ ?_|refine X4 ?_ ?_|refine X5 ?_ ?_|refine X6 ?_ ?_|refine X7 ?_ ?_|refine X8 ?_ ?_|refine X9 ?_ ?_)|refine⟨_,_,_,rfl,?_⟩|refine⟨_,rfl,?_⟩|((with_reducible refine And.intro ?_ ?_);·first|omega|trivial|(show _=_;rfl)|((with_reducible refine And.intro ?_ ?_)<;>first|omega|trivial|(show _=_;rfl)))|refine (zC0 hn ih h0 hl1 pre ctx 0 rfl _ _ _) _ _ ?_|refine (zC0 hn ih h0 hl1 pre ctx 1 rfl _ _ _) _ _ ?_|(((with_reducible refine And.intro ?_ ?_); · exact tu (by assumption) (by assumption)))|fail
 all_goals first | (exfalso; omega) | skip
 rename_i hd0 ho0 _ _ _ _ _ _ _ _ _ _ _ _ _ _ hd1 ho1 _ _
 have hv := uk e0 g n
 generalize tyZ e0 g n = z0 at *
 cases z0 with
 | mk k0 l0 =>
 obtain ⟨a2, es2, c2, rfl, hl2, he2⟩ := Ty.is_mk.1 hd0
 by_cases hk : k0 = 3
 ·subst hk
  have hv : (Ty.mk 3 l0).valid = true := by
   rcases hv with ⟨_, hv⟩ | ⟨_, hv⟩
   ·cases hv
   ·exact hv
  have hcn := Ty.valid_cnt hv
  rcases Ty.valid_k hv with ⟨hk, _⟩ | ⟨hk, _⟩ | ⟨_, u, v, huv⟩ | ⟨hk, _⟩
  ·cases hk
  ·cases hk
  ·simp only [Ty.as] at huv
   subst huv
   obtain ⟨x0, _, rfl, hx0, x1, _, rfl, hx1, rfl⟩ := he2
   simp only [Ty.cnt, zH] at hcn
   have q1 : uP u (tyZ e1 g n) = true → zL6 (.mk 3 [u, v]) (tyZ e1 g n) = v := fun h => if_pos ⟨rfl, h⟩
   have q2 : uP u (tyZ e1 g n) = false → zL6 (.mk 3 [u, v]) (tyZ e1 g n) = tZero := fun h => if_neg fun hc => by rw [show (Ty.mk 3 [u, v]).as.getD 0 tZero = u from rfl, h] at hc; cases hc.2
   repeat' first|with_reducible intro _|simp only[List.length_cons, List.length_nil,Y1,Y2,Y3,Y4]|(with_reducible first|refine X1 ?_ ?_|refine X2 ?_ ?_|refine X3 ?_ ?_|refine X4 ?_ ?_|refine X5 ?_ ?_|refine X6 ?_ ?_|refine X7 ?_ ?_|refine X8 ?_ ?_|refine X9 ?_ ?_)|refine⟨_,_,_,rfl,?_⟩|refine⟨_,rfl,?_⟩|((with_reducible refine And.intro ?_ ?_);·first|omega|trivial|(show _=_;rfl)|((with_reducible refine And.intro ?_ ?_)<;>first|omega|trivial|(show _=_;rfl)))|refine (zV u (tyZ e1 g n) _ _ hx0 hd1) _ _ ?_|refine (zDb v _ hx1 (by omega)) _ _ ?_|fail
   all_goals first | (exfalso; omega) | skip
   all_goals first
    | exact hQ _ _ (by omega) (by rw [q1 (by assumption)]; assumption) (Own.mono (by assumption) (by omega) (by omega))
    | exact hQ _ _ (by omega) (by rw [q2 (by assumption)]; exact yo) yA
  ·cases hk
 ·repeat' first|with_reducible intro _|simp only[Y1,Y2,Y3,Y4]|(with_reducible first|refine X1 ?_ ?_|refine X2 ?_ ?_|refine X3 ?_ ?_|refine X4 ?_ ?_|refine X5 ?_ ?_|refine X6 ?_ ?_|refine X7 ?_ ?_|refine X8 ?_ ?_|refine X9 ?_ ?_)|refine⟨_,_,_,rfl,?_⟩|refine⟨_,rfl,?_⟩|((with_reducible refine And.intro ?_ ?_);·first|omega|trivial|(show _=_;rfl)|((with_reducible refine And.intro ?_ ?_)<;>first|omega|trivial|(show _=_;rfl)))|fail
  all_goals first | (exfalso; omega) | skip
  exact hQ _ _ (by omega) (by rw [show zL6 (.mk k0 l0) (tyZ e1 g n) = tZero from if_neg fun h => hk h.1]; exact yo) yA
/-- the type of a function of this parameter -/
def zM3 (t z : Ty) : Ty := if z.k = 0 then tZero else vm t z
theorem f6 {nm ot : ByteArray} {m n : Int} {ty re : Ty} {l : List Tm} {t0 t1 r0 r1 : D} {es1 : List D} {a1 a : Option Addr} {c1 c : Nat} {g : List Tg} {es : List D} (ih : IHi l) (hh : Tm.Hd nm ot ty re t0 t1 r0 r1) (h0 : All2 Tm.Is l es1) (hl1 : es1.length ≤ 4611686018427387904)
  (pre : Pre g (.mk 6 nm ot m ty re l) n) (ctx : Ctx g es) :
  zBE 160 [.sv a 4 es c, .dg 9 (zD8 6 nm ot m t0 t1 r0 r1 a1 es1 c1), .int .i64 n] ((Tm.raw (.mk 6 nm ot m ty re l) g n).getD tZero) := fun N Q hQ => by
 have hl : l.length = 1 := by have : (l.length : Int) = 1 := (za pre.ok).ar
                              omega
 obtain ⟨e0, rfl⟩ := zBK hl
 obtain ⟨d0, _, rfl, h0, rfl⟩ := h0
 have hlen := pre.len
 have hpc : 1 ≤ (Tm.mk 6 nm ot m ty re [e0]).cnt := by simp only [Tm.cnt]; omega
 have hv := Ty.valid_cnt ((za pre.ok).vt (.inl rfl))
 have hp := pre.sub (x := e0) (by simp) (g' := g ++ [⟨nm, ty, n⟩]) (by simp) (tD pre.ty (show ty.cnt ≤ 64 by omega))
 rw [show zu 6 n = n by simp [zu]] at hp
 have hc := zFt e0 (g ++ [⟨nm, ty, n⟩]) n
 have hz := uk e0 (g ++ [⟨nm, ty, n⟩]) n
 have hraw : (Tm.raw (.mk 6 nm ot m ty re [e0]) g n).getD tZero = zM3 ty (tyZ e0 (g ++ [⟨nm, ty, n⟩]) n) := by
  have : Tm.raw (.mk 6 nm ot m ty re [e0]) g n = (match e0.type (g ++ [⟨nm, ty, n⟩]) n with | some b => some (vm ty b) | none => none) := by simp only [Tm.raw, wu]; rfl
  rw [this]
  unfold zM3
  rcases hz with ⟨h1, h2⟩ | ⟨h1, h2⟩
  ·rw [h1, h2]; rfl
  ·rw [h1, if_neg (Ty.valid_nz h2)]; rfl
 rw [hraw] at hQ
 have hctx : Ctx [⟨nm, ty, n⟩] [.ag [.lit (.string nm), t0, t1, .lit (.int .i64 n)]] := ⟨by simp, _, _, rfl, ⟨_, _, rfl, hh.nm, hh.ty⟩, rfl⟩
 refine zT N a es c _ n Q fun _ _ => ⟨_, rfl, ?_⟩
 repeat' first|with_reducible intro _|simp only[List.length_cons, List.length_nil,Y1,Y2,Y3,Y4]|(with_reducible first|refine X1 ?_ ?_|refine X2 ?_ ?_|refine X3 ?_ ?_|refine X4 ?_ ?_|refine X5 ?_ ?_|refine X6 ?_ ?_|refine X7 ?_ ?_|refine X8 ?_ ?_|refine X9 ?_ ?_)|refine⟨_,_,_,rfl,?_⟩|refine⟨_,rfl,?_⟩|((with_reducible refine And.intro ?_ ?_);·first|omega|trivial|(show _=_;rfl)|((with_reducible refine And.intro ?_ ?_)<;>first|omega|trivial|(show _=_;rfl)))|refine (zKO ctx hctx (by simp; omega) _ _ _ _) _ _ ?_|refine (ih e0 List.mem_cons_self d0 h0 (g ++ [⟨nm, ty, n⟩]) _ _ _ n hp (by assumption)) _ _ ?_|(((with_reducible refine And.intro ?_ ?_); · exact zGA (by assumption) (by assumption) (by assumption) (by assumption)))|fail
 all_goals first | (exfalso; omega) | skip
 rename_i hd0 ho0 _ _
 generalize tyZ e0 (g ++ [⟨nm, ty, n⟩]) n = z0 at *
 cases z0 with
 | mk k0 l0 =>
 have hd1 := hd0
 obtain ⟨a2, es2, c2, rfl, hl2, he2⟩ := Ty.is_mk.1 hd0
 repeat' first|with_reducible intro _|simp only[Y1,Y2,Y3,Y4]|(with_reducible first|refine X1 ?_ ?_|refine X2 ?_ ?_|refine X3 ?_ ?_|refine X4 ?_ ?_|refine X5 ?_ ?_|refine X6 ?_ ?_|refine X7 ?_ ?_|refine X8 ?_ ?_|refine X9 ?_ ?_)|refine⟨_,_,_,rfl,?_⟩|refine⟨_,rfl,?_⟩|((with_reducible refine And.intro ?_ ?_);·first|omega|trivial|(show _=_;rfl)|((with_reducible refine And.intro ?_ ?_)<;>first|omega|trivial|(show _=_;rfl)))|refine (zMP ty (.mk k0 l0) _ _ hh.ty hd1 (by omega) (by omega)) _ _ ?_|fail
 all_goals first
  | exact hQ _ _ (by omega) (by rw [show zM3 ty (.mk k0 l0) = tZero from if_pos (by assumption)]; exact yo) yA
  | exact hQ _ _ (by omega) (by rw [show zM3 ty (.mk k0 l0) = vm ty (.mk k0 l0) from if_neg (by assumption)]; assumption) (Own.mono (by assumption) (by omega) (by omega))
end Go.Proofs.YtfkmegifjiiclaaGreat
