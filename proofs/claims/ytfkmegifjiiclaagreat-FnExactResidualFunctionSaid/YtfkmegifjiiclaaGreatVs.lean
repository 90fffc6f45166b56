/- The program's typing: binders, stages, operations. -/
import Derived.Test.YtfkmegifjiiclaaGreatVq
set_option linter.unusedVariables false
set_option linter.unusedSimpArgs false
namespace Go.Proofs.YtfkmegifjiiclaaGreat
open Go Go.Proofs Go.Proofs.Tryz Go.IntWalk

/-- the type of a let whose first part has this type -/
def zM1 (e1 : Tm) (g : List Tg) (nm : ByteArray) (n : Int) (z : Ty) : Ty := if z.k = 0 then tZero else tyZ e1 (g ++ [⟨nm, z, n⟩]) n
theorem f8 {nm ot : ByteArray} {m n : Int} {ty re : Ty} {l : List Tm} {t0 t1 r0 r1 : D} {es1 : List D} {a1 a : Option Addr} {c1 c : Nat} {g : List Tg} {es : List D} (ih : IHi l) (hh : Tm.Hd nm ot ty re t0 t1 r0 r1) (h0 : All2 Tm.Is l es1) (hl1 : es1.length ≤ 4611686018427387904)
  (pre : Pre g (.mk 8 nm ot m ty re l) n) (ctx : Ctx g es) :
  zBE 160 [.sv a 4 es c, .dg 9 (zD8 8 nm ot m t0 t1 r0 r1 a1 es1 c1), .int .i64 n] ((Tm.raw (.mk 8 nm ot m ty re l) g n).getD tZero) := fun N Q hQ => by
 have hl : l.length = 2 := by have : (l.length : Int) = 2 := (za pre.ok).ar
                              omega
 obtain ⟨e0, e1, rfl⟩ := zKV hl
 have hes1 := h0
 obtain ⟨d0, _, rfl, h0, d1, _, rfl, h1, rfl⟩ := h0
 have hlen := pre.len
 have hpc : 1 ≤ (Tm.mk 8 nm ot m ty re [e0, e1]).cnt := by simp only [Tm.cnt]; omega
 have hz := uk e0 g n
 have hc := zFt e0 g n
 have hraw : (Tm.raw (.mk 8 nm ot m ty re [e0, e1]) g n).getD tZero = zM1 e1 g nm n (tyZ e0 g n) := by
  have : Tm.raw (.mk 8 nm ot m ty re [e0, e1]) g n = (match e0.type g n with | some b => e1.type (g ++ [⟨nm, b, n⟩]) n | none => none) := by simp only [Tm.raw, wu]; rfl
  rw [this]
  unfold zM1
  rcases hz with ⟨h1, h2⟩ | ⟨h1, h2⟩
  ·rw [h1, h2]; rfl
  ·rw [h1, if_neg (Ty.valid_nz h2)]; rfl
 rw [hraw] at hQ
 have hn : zu 8 n = n := by simp [zu]
 refine zT N a es c _ n Q fun _ _ => ⟨_, rfl, ?_⟩
 repeat' first|with_reducible intro _|simp only[List.length_cons, List.length_nil,Y1,Y2,Y3,Y4]|(with_reducible first|refine X1 ?_ ?_|refine X2 ?_ ?_|refine X3 ?_ ?_|refine X4 ?_ ?_|refine X5 ?_ ?_|refine X6 ?_ ?_|refine X7 ?_ ?_|refine X8 ?_ ?_|refine X9 ?_ ?_)|refine⟨_,_,_,rfl,?_⟩|refine⟨_,rfl,?_⟩|((with_reducible refine And.intro ?_ ?_);·first|omega|trivial|(show _=_;rfl)|((with_reducible refine And.intro ?_ ?_)<;>first|omega|trivial|(show _=_;rfl)))|refine (zC0 hn ih hes1 hl1 pre ctx 0 rfl _ _ _) _ _ ?_|(((with_reducible refine And.intro ?_ ?_); · exact tu (by assumption) (by assumption)))|fail
 all_goals first | (exfalso; omega) | skip
 rename_i hd0 ho0 _ _
 generalize tyZ e0 g n = z0 at *
 cases z0 with
 | mk k0 l0 =>
 have hd1 := hd0
 obtain ⟨a2, es2, c2, rfl, hl2, he2⟩ := Ty.is_mk.1 hd0
 by_cases hk : k0 = 0
 ·have q : zM1 e1 g nm n (.mk k0 l0) = tZero := if_pos hk
  rw [q] at hQ
  repeat' first|with_reducible intro _|simp only[Y1,Y2,Y3,Y4]|(with_reducible first|refine X1 ?_ ?_|refine X2 ?_ ?_|refine X3 ?_ ?_|refine X4 ?_ ?_|refine X5 ?_ ?_|refine X6 ?_ ?_|refine X7 ?_ ?_|refine X8 ?_ ?_|refine X9 ?_ ?_)|refine⟨_,_,_,rfl,?_⟩|refine⟨_,rfl,?_⟩|((with_reducible refine And.intro ?_ ?_);·first|omega|trivial|(show _=_;rfl)|((with_reducible refine And.intro ?_ ?_)<;>first|omega|trivial|(show _=_;rfl)))|fail
  all_goals first | (exfalso; omega) | exact hQ _ _ (by omega) yo yA
 ·have q : zM1 e1 g nm n (.mk k0 l0) = tyZ e1 (g ++ [⟨nm, .mk k0 l0, n⟩]) n := if_neg hk
  rw [q] at hQ
  have hp := pre.sub (x := e1) (by simp) (g' := g ++ [⟨nm, .mk k0 l0, n⟩]) (by simp) (tD pre.ty (Nat.le_trans hc (by omega)))
  rw [hn] at hp
  have hctx : Ctx [⟨nm, .mk k0 l0, n⟩] [.ag [.lit (.string nm), .lit (.int .i64 k0), .sl a2 2 es2 c2, .lit (.int .i64 n)]] := ⟨by simp, _, _, rfl, ⟨_, _, rfl, hh.nm, hd1⟩, rfl⟩
  repeat' first|with_reducible intro _|simp only[List.length_cons, List.length_nil,Y1,Y2,Y3,Y4]|(with_reducible first|refine X1 ?_ ?_|refine X2 ?_ ?_|refine X3 ?_ ?_|refine X4 ?_ ?_|refine X5 ?_ ?_|refine X6 ?_ ?_|refine X7 ?_ ?_|refine X8 ?_ ?_|refine X9 ?_ ?_)|refine⟨_,_,_,rfl,?_⟩|refine⟨_,rfl,?_⟩|((with_reducible refine And.intro ?_ ?_);·first|omega|trivial|(show _=_;rfl)|((with_reducible refine And.intro ?_ ?_)<;>first|omega|trivial|(show _=_;rfl)))|refine (zKO ctx hctx (by simp; omega) _ _ _ _) _ _ ?_|refine (ih e1 (by simp) d1 h1 (g ++ [⟨nm, .mk k0 l0, n⟩]) _ _ _ n hp (by assumption)) _ _ ?_|(((with_reducible refine And.intro ?_ ?_); · exact zGA (by assumption) (by assumption) (by assumption) (by assumption)))|fail
  all_goals first | (exfalso; omega) | skip
  exact hQ _ _ (by omega) (by assumption) (Own.mono (by assumption) (by omega) (by omega))
theorem zQq {nm ot : ByteArray} {ty re : Ty} {t0 t1 r0 r1 x : D} (hh : Tm.Hd nm ot ty re t0 t1 r0 r1) (hx : (vm ty re).Is x) (n : Int) :
  Ctx [⟨nm, vm ty re, n⟩, ⟨ot, ty, n⟩] [.ag [.lit (.string nm), D.cell x 0, D.cell x 1, .lit (.int .i64 n)], .ag [.lit (.string ot), t0, t1, .lit (.int .i64 n)]] :=
 ⟨by simp, _, _, rfl, ⟨_, _, rfl, hh.nm, Ty.is_cells hx⟩, _, _, rfl, ⟨_, _, rfl, hh.ot, hh.ty⟩, rfl⟩
theorem f9 {nm ot : ByteArray} {m n : Int} {ty re : Ty} {l : List Tm} {t0 t1 r0 r1 : D} {es1 : List D} {a1 a : Option Addr} {c1 c : Nat} {g : List Tg} {es : List D} (ih : IHi l) (hh : Tm.Hd nm ot ty re t0 t1 r0 r1) (h0 : All2 Tm.Is l es1) (hl1 : es1.length ≤ 4611686018427387904)
  (pre : Pre g (.mk 9 nm ot m ty re l) n) (ctx : Ctx g es) :
  zBE 160 [.sv a 4 es c, .dg 9 (zD8 9 nm ot m t0 t1 r0 r1 a1 es1 c1), .int .i64 n] ((Tm.raw (.mk 9 nm ot m ty re l) g n).getD tZero) := fun N Q hQ => by
 have hl : l.length = 1 := by have : (l.length : Int) = 1 := (za pre.ok).ar
                              omega
 obtain ⟨e0, rfl⟩ := zBK hl
 obtain ⟨d0, _, rfl, h0, rfl⟩ := h0
 have hlen := pre.len
 have hpc : 1 ≤ (Tm.mk 9 nm ot m ty re [e0]).cnt := by simp only [Tm.cnt]; omega
 have hv := Ty.valid_cnt ((za pre.ok).vt (.inr rfl))
 have hrv := (za pre.ok).vr rfl
 have hr := Ty.valid_cnt hrv
 have hg1 := tD (x := ⟨nm, vm ty re, n⟩) pre.ty (show (vm ty re).cnt ≤ 64 by simp only [vm, Ty.cnt, zH]; omega)
 have hp := pre.sub (x := e0) (by simp) (g' := (g ++ [⟨nm, vm ty re, n⟩]) ++ [⟨ot, ty, n⟩]) (by simp) (tD hg1 (show ty.cnt ≤ 64 by omega))
 rw [show zu 9 n = n by simp [zu], List.append_assoc, List.singleton_append] at hp
 have hz := uk e0 (g ++ [⟨nm, vm ty re, n⟩, ⟨ot, ty, n⟩]) n
 have hraw : (Tm.raw (.mk 9 nm ot m ty re [e0]) g n).getD tZero = if uP (tyZ e0 (g ++ [⟨nm, vm ty re, n⟩, ⟨ot, ty, n⟩]) n) re then vm ty re else tZero := by
  have : Tm.raw (.mk 9 nm ot m ty re [e0]) g n = (match e0.type ((g ++ [⟨nm, vm ty re, n⟩]) ++ [⟨ot, ty, n⟩]) n with | some b => if uP b re then some (vm ty re) else none | none => none) := by simp only [Tm.raw, wu]; rfl
  rw [this, List.append_assoc, List.singleton_append]
  rcases hz with ⟨h1, h2⟩ | ⟨h1, h2⟩
  ·rw [h1, h2, (zMO hrv).2]; rfl
  ·rw [h1]; dsimp only; split <;> rfl
 rw [hraw] at hQ
 refine zT N a es c _ n Q fun _ _ => ⟨_, rfl, ?_⟩
 repeat' first|with_reducible intro _|simp only[List.length_cons, List.length_nil,Y1,Y2,Y3,Y4]|(with_reducible first|refine X1 ?_ ?_|refine X2 ?_ ?_|refine X3 ?_ ?_|refine X4 ?_ ?_|refine X5 ?_ ?_|refine X6 ?_ ?_|refine X7 ?_ ?_|refine X8 ?_ ?_|refine X9 ?_ ?_)|refine⟨_,_,_,rfl,?_⟩|refine⟨_,rfl,?_⟩|((with_reducible refine And.intro ?_ ?_);·first|omega|trivial|(show _=_;rfl)|((with_reducible refine And.intro ?_ ?_)<;>first|omega|trivial|(show _=_;rfl)))|refine (zMP ty re _ _ hh.ty hh.re (by omega) (by omega)) _ _ ?_|refine (zKO ctx (h := [⟨nm, vm ty re, n⟩, ⟨ot, ty, n⟩]) (zQq hh (by assumption) n) (by simp; omega) _ _ _ _) _ _ ?_|refine (ih e0 List.mem_cons_self d0 h0 (g ++ [⟨nm, vm ty re, n⟩, ⟨ot, ty, n⟩]) _ _ _ n hp (by assumption)) _ _ ?_|refine (zV (tyZ e0 (g ++ [⟨nm, vm ty re, n⟩, ⟨ot, ty, n⟩]) n) re _ _ (by assumption) hh.re) _ _ ?_|(((with_reducible refine And.intro ?_ ?_); · exact zGA (by assumption) (by assumption) (by assumption) (by assumption)))|fail
 all_goals first | (exfalso; omega) | skip
 all_goals first
  | exact hQ _ _ (by omega) (by rw [if_pos (by assumption)]; assumption) (Own.mono (by assumption) (by omega) (by omega))
  | exact hQ _ _ (by omega) (by rw [if_neg (by simp [*])]; exact yo) yA
/-- the type of a stage over a part of this type -/
def stZ (k : Int) (z : Ty) : Ty := if k = 10 then (if z.k = 0 then tZero else zBn z) else if k = 13 then (if z.base then zBn z else tZero) else zBG z
theorem zPN {k : Int} {e0 : Tm} {g : List Tg} {n : Int} : ((match e0.type g n with | some t => yg k t | none => none) : Option Ty).getD tZero = stZ k (tyZ e0 g n) := by
 rcases uk e0 g n with ⟨h1, h2⟩ | ⟨h1, h2⟩
 ·rw [h1, h2]
  have : stZ k tZero = tZero := by
   unfold stZ
   split
   ·rfl
   ·split <;> rfl
  exact this.symm
 ·rw [h1]
  dsimp only
  have := Ty.valid_nz h2
  unfold stZ yg zBG
  rw [if_neg this]
  (repeat' split) <;> rfl
theorem fS {k : Int} {nm ot : ByteArray} {m n : Int} {ty re : Ty} {l : List Tm} {t0 t1 r0 r1 : D} {es1 : List D} {a1 a : Option Addr} {c1 c : Nat} {g : List Tg} {es : List D} (hk : k = 10 ∨ k = 11 ∨ k = 12 ∨ k = 13) (ih : IHi l) (hh : Tm.Hd nm ot ty re t0 t1 r0 r1) (h0 : All2 Tm.Is l es1) (hl1 : es1.length ≤ 4611686018427387904)
  (pre : Pre g (.mk k nm ot m ty re l) n) (ctx : Ctx g es) :
  zBE 205 [.sv a 4 es c, .dg 9 (zD8 k nm ot m t0 t1 r0 r1 a1 es1 c1), .int .i64 n] ((Tm.raw (.mk k nm ot m ty re l) g n).getD tZero) := fun N Q hQ => by
 have hl : l.length = 1 := by
  have har := (za pre.ok).ar
  have : (l.length : Int) = 1 := by rw [har]; rcases hk with rfl | rfl | rfl | rfl <;> rfl
  omega
 obtain ⟨e0, rfl⟩ := zBK hl
 obtain ⟨d0, _, rfl, h0, rfl⟩ := h0
 have hlen := pre.len
 have hlv := pre.lv
 have hsub := zAt g n g 0
 have hc2 : ∀ x ∈ g, x.ty.cnt ≤ 1073741824 := fun x hx => Nat.le_trans (pre.ty x hx) (by omega)
 have hraw : (Tm.raw (.mk k nm ot m ty re [e0]) g n).getD tZero = stZ k (tyZ e0 (if k = 12 then uX g n else g) (zu k n)) := by
  rw [← zPN]
  simp only [Tm.raw, wu]
  rw [if_neg (by omega), if_neg (by omega), if_neg (by omega), if_neg (by omega), if_neg (by omega), if_neg (by omega), if_pos hk]
  rfl
 rw [hraw] at hQ
 have hp := pre.sub (x := e0) (by simp) (g' := if k = 12 then uX g n else g) (by split <;> simp [uX]; omega) (by split; exact fun y hy => pre.ty y (hsub.1 y hy); exact pre.ty)
 have ih0 : ∀ es a c, Ctx (if k = 12 then uX g n else g) es → zBE 120 [.sv a 4 es c, .dg 9 d0, .int .i64 (zu k n)] (tyZ e0 (if k = 12 then uX g n else g) (zu k n)) := fun es a c hc => ih e0 List.mem_cons_self d0 h0 _ es a c _ hp hc
 have hz := uk e0 (if k = 12 then uX g n else g) (zu k n)
 have hcn := zFt e0 (if k = 12 then uX g n else g) (zu k n)
 generalize tyZ e0 (if k = 12 then uX g n else g) (zu k n) = z0 at *
 have hzv : z0.valid = true ∨ z0 = tZero := hz.elim (fun h => .inr h.2) fun h => .inl h.2
 refine zBa N a es c _ n Q fun _ _ => ⟨_, rfl, ?_⟩
 rw [i64_in (n + 1) (by omega), i64_in (n - 1) (by omega)]
 cases z0 with
 | mk k0 l0 =>
 rcases hk with rfl | rfl | rfl | rfl
 ·have ih1 := ih0 es a c ctx
  rw [show zu 10 n = n + 1 by simp [zu]] at ih1
  repeat' first|with_reducible intro _|simp only[List.length_cons, List.length_nil,Y1,Y2,Y3,Y4]|(with_reducible first|refine X1 ?_ ?_|refine X2 ?_ ?_|refine X3 ?_ ?_|refine X4 ?_ ?_|refine X5 ?_ ?_|refine X6 ?_ ?_|refine X7 ?_ ?_|refine X8 ?_ ?_|refine X9 ?_ ?_)|refine⟨_,_,_,rfl,?_⟩|refine⟨_,rfl,?_⟩|((with_reducible refine And.intro ?_ ?_);·first|omega|trivial|(show _=_;rfl)|((with_reducible refine And.intro ?_ ?_)<;>first|omega|trivial|(show _=_;rfl)))|refine ih1 _ _ ?_|fail
  all_goals first | (exfalso; omega) | skip
  rename_i hd0 ho0 _ _
  have hd1 := hd0
  obtain ⟨a2, es2, c2, rfl, hl2, he2⟩ := Ty.is_mk.1 hd0
  have q : stZ 10 (.mk k0 l0) = if k0 = 0 then tZero else zBn (.mk k0 l0) := rfl
  rw [q] at hQ
  repeat' first|with_reducible intro _|simp only[Y1,Y2,Y3,Y4]|(with_reducible first|refine X1 ?_ ?_|refine X2 ?_ ?_|refine X3 ?_ ?_|refine X4 ?_ ?_|refine X5 ?_ ?_|refine X6 ?_ ?_|refine X7 ?_ ?_|refine X8 ?_ ?_|refine X9 ?_ ?_)|refine⟨_,_,_,rfl,?_⟩|refine⟨_,rfl,?_⟩|((with_reducible refine And.intro ?_ ?_);·first|omega|trivial|(show _=_;rfl)|((with_reducible refine And.intro ?_ ?_)<;>first|omega|trivial|(show _=_;rfl)))|refine (zKB (.mk k0 l0) _ hd1 (by omega)) _ _ ?_|fail
  all_goals first
   | exact hQ _ _ (by omega) (by rw [if_neg (by assumption)]; assumption) (Own.mono (by assumption) (by omega) (by omega))
   | exact hQ _ _ (by omega) (by rw [if_pos (by assumption)]; exact yo) yA
 ·have ih1 := ih0 es a c ctx
  rw [show zu 11 n = n - 1 by simp [zu]] at ih1
  have q : stZ 11 (.mk k0 l0) = zBG (.mk k0 l0) := rfl
  rw [q] at hQ
  repeat' first|with_reducible intro _|simp only[List.length_cons, List.length_nil,Y1,Y2,Y3,Y4]|(with_reducible first|refine X1 ?_ ?_|refine X2 ?_ ?_|refine X3 ?_ ?_|refine X4 ?_ ?_|refine X5 ?_ ?_|refine X6 ?_ ?_|refine X7 ?_ ?_|refine X8 ?_ ?_|refine X9 ?_ ?_)|refine⟨_,_,_,rfl,?_⟩|refine⟨_,rfl,?_⟩|((with_reducible refine And.intro ?_ ?_);·first|omega|trivial|(show _=_;rfl)|((with_reducible refine And.intro ?_ ?_)<;>first|omega|trivial|(show _=_;rfl)))|refine ih1 _ _ ?_|refine (zKJ (.mk k0 l0) _ (by assumption) hzv) _ _ ?_|fail
  all_goals first | (exfalso; omega) | skip
  exact hQ _ _ (by omega) (by assumption) (Own.mono (by assumption) (by omega) (by omega))
 ·rw [if_pos rfl, show zu 12 n = n by simp [zu]] at ih0
  have q : stZ 12 (.mk k0 l0) = zBG (.mk k0 l0) := rfl
  rw [q] at hQ
  repeat' first|with_reducible intro _|simp only[List.length_cons, List.length_nil,Y1,Y2,Y3,Y4]|(with_reducible first|refine X1 ?_ ?_|refine X2 ?_ ?_|refine X3 ?_ ?_|refine X4 ?_ ?_|refine X5 ?_ ?_|refine X6 ?_ ?_|refine X7 ?_ ?_|refine X8 ?_ ?_|refine X9 ?_ ?_)|refine⟨_,_,_,rfl,?_⟩|refine⟨_,rfl,?_⟩|((with_reducible refine And.intro ?_ ?_);·first|omega|trivial|(show _=_;rfl)|((with_reducible refine And.intro ?_ ?_)<;>first|omega|trivial|(show _=_;rfl)))|refine (zLQ ctx (by omega) hc2 _ _ n) _ _ ?_|refine (ih0 _ _ _ (by assumption)) _ _ ?_|refine (zKJ (.mk k0 l0) _ (by assumption) hzv) _ _ ?_|fail
  all_goals first | (exfalso; omega) | skip
  exact hQ _ _ (by omega) (by assumption) (Own.mono (by assumption) (by omega) (by omega))
 ·have ih1 := ih0 es a c ctx
  rw [show zu 13 n = n by simp [zu]] at ih1
  have q : stZ 13 (.mk k0 l0) = if (Ty.mk k0 l0).base then zBn (.mk k0 l0) else tZero := rfl
  rw [q] at hQ
  repeat' first|with_reducible intro _|simp only[List.length_cons, List.length_nil,Y1,Y2,Y3,Y4]|(with_reducible first|refine X1 ?_ ?_|refine X2 ?_ ?_|refine X3 ?_ ?_|refine X4 ?_ ?_|refine X5 ?_ ?_|refine X6 ?_ ?_|refine X7 ?_ ?_|refine X8 ?_ ?_|refine X9 ?_ ?_)|refine⟨_,_,_,rfl,?_⟩|refine⟨_,rfl,?_⟩|((with_reducible refine And.intro ?_ ?_);·first|omega|trivial|(show _=_;rfl)|((with_reducible refine And.intro ?_ ?_)<;>first|omega|trivial|(show _=_;rfl)))|refine ih1 _ _ ?_|refine (tc (.mk k0 l0) _ (by assumption)) _ _ ?_|refine (zKB (.mk k0 l0) _ (by assumption) (by omega)) _ _ ?_|fail
  all_goals first | (exfalso; omega) | skip
  all_goals first
   | exact hQ _ _ (by omega) (by rw [if_pos (by assumption)]; assumption) (Own.mono (by assumption) (by omega) (by omega))
   | exact hQ _ _ (by omega) (by rw [if_neg (by simp [*])]; exact yo) yA
end Go.Proofs.YtfkmegifjiiclaaGreat
