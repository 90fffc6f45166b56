/- What typing comes to; the reference's functions. -/
import Derived.Test.YtfkmegifjiiclaaGreatVi
set_option linter.unusedVariables false
set_option linter.unusedSimpArgs false
namespace Go.Proofs.YtfkmegifjiiclaaGreat
open Go Go.Proofs Go.Proofs.Tryz Go.IntWalk

def vld (o : Option Ty) : Option Ty := match o with
 | some t => if t.valid then some t else none
 | none => none
/-- the type of code, a splice, a run or a lift over this type -/
def yg (k : Int) (t : Ty) : Option Ty :=
 if k = 10 then some (zBn t) else if k = 13 then (if t.base then some (zBn t) else none) else if t.k = 4 then some (t.as.getD 0 tZero) else none
def rp (g : List Tg) (s : ByteArray) (n : Int) : Option Ty :=
 if yB g s < 0 then none else if (g.getD (yB g s).toNat tg0).lv = n then some (g.getD (yB g s).toNat tg0).ty else none
mutual
def Tm.type : Tm → List Tg → Int → Option Ty
 | .mk k nm ot _ ty re l, g, n => vld (
   if k = 1 then rp g nm n
   else if k = 2 then some tInt
   else if k = 3 then some tBool
   else if k = 6 then (match wu l 0 (g ++ [⟨nm, ty, n⟩]) n with | some b => some (vm ty b) | none => none)
   else if k = 8 then (match wu l 0 g n with | some a => wu l 1 (g ++ [⟨nm, a, n⟩]) n | none => none)
   else if k = 9 then (match wu l 0 ((g ++ [⟨nm, vm ty re, n⟩]) ++ [⟨ot, ty, n⟩]) n with | some b => if uP b re then some (vm ty re) else none | none => none)
   else if k = 10 ∨ k = 11 ∨ k = 12 ∨ k = 13 then (match wu l 0 (if k = 12 then uX g n else g) (zu k n) with | some t => yg k t | none => none)
   else (match ze l g n with | some ts => yV k nm ts | none => none))
def wu : List Tm → Nat → List Tg → Int → Option Ty
 | [], _, _, _ => none
 | t :: _, 0, g, n => t.type g n
 | _ :: ts, i + 1, g, n => wu ts i g n
def ze : List Tm → List Tg → Int → Option (List Ty)
 | [], _, _ => some []
 | t :: ts, g, n => match t.type g n with
   | some u => (match ze ts g n with | some us => some (u :: us) | none => none)
   | none => none
end
theorem pz {o : Option Ty} {t : Ty} (h : vld o = some t) : o = some t ∧ t.valid = true := by
 cases o with
 | none => cases h
 | some u =>
   simp only [vld] at h
   split at h
   ·cases h; exact ⟨rfl, by assumption⟩
   ·cases h
theorem Tm.type_valid {e : Tm} {g : List Tg} {n : Int} {t : Ty} (h : e.type g n = some t) : t.valid = true := by
 cases e with
 | mk k nm ot m ty re l =>
   simp only [Tm.type] at h
   exact (pz h).2
theorem zFJ : ∀ {l : List Tm} {g : List Tg} {n : Int} {ts : List Ty}, ze l g n = some ts → ts.length = l.length ∧ ∀ t ∈ ts, t.valid = true
 | [], g, n, ts, h => by simp [ze] at h; subst h; simp
 | e :: es, g, n, ts, h => by
   simp only [ze] at h
   split at h
   ·rename_i u hu
    split at h
    ·rename_i us hus
     cases h
     have := zFJ hus
     refine ⟨by simp [this.1], fun t ht => ?_⟩
     rcases List.mem_cons.1 ht with rfl | ht
     ·exact Tm.type_valid hu
     ·exact this.2 t ht
    ·cases h
   ·cases h

/-- what typing may count on -/
structure Pre (g : List Tg) (e : Tm) (n : Int) : Prop where
 ok : e.ok = true
 lev : e.lev n = true
 len : g.length + 2 * e.cnt ≤ 1073741824
 ty : ∀ x ∈ g, x.ty.cnt ≤ 64
/-- the facts of a well-formed node -/
structure Node (k : Int) (nm ot : ByteArray) (n : Int) (ty re : Ty) (l : List Tm) : Prop where
 f : yF k nm ot n ty re = true
 ar : (l.length : Int) = r8 k nm
 sub : ∀ x ∈ l, x.ok = true
theorem zIX : ∀ {l : List Tm} {x : Tm}, zEL l = true → x ∈ l → x.ok = true
 | t :: ts, x, h, hx => by
   simp only [zEL, Bool.and_eq_true] at h
   rcases List.mem_cons.1 hx with rfl | hx
   ·exact h.1
   ·exact zIX h.2 hx
theorem zEs : ∀ {l : List Tm} {n : Int} {x : Tm}, qI l n = true → x ∈ l → x.lev n = true
 | t :: ts, n, x, h, hx => by
   simp only [qI, Bool.and_eq_true] at h
   rcases List.mem_cons.1 hx with rfl | hx
   ·exact h.1
   ·exact zEs h.2 hx
theorem za {k : Int} {nm ot : ByteArray} {n : Int} {ty re : Ty} {l : List Tm} (h : (Tm.mk k nm ot n ty re l).ok = true) : Node k nm ot n ty re l := by
 simp only [Tm.ok, Bool.and_eq_true] at h
 exact ⟨h.2.1, by simpa using h.2.2, fun x hx => zIX h.1 hx⟩
theorem Node.vt {k n : Int} {nm ot : ByteArray} {ty re : Ty} {l : List Tm} (h : Node k nm ot n ty re l) (hk : k = 6 ∨ k = 9) : ty.valid = true := by
 have := h.f
 have e : zBP k = true := by rcases hk with rfl | rfl <;> rfl
 simp only [yF, Bool.and_eq_true, e] at this
 simpa using this.1
theorem Node.vr {k n : Int} {nm ot : ByteArray} {ty re : Ty} {l : List Tm} (h : Node k nm ot n ty re l) (hk : k = 9) : re.valid = true := by
 have := h.f
 subst hk
 simp only [yF, Bool.and_eq_true] at this
 simpa using this.2.2.1
theorem zIp {k : Int} {nm : ByteArray} (h : 0 ≤ r8 k nm) : k = 1 ∨ k = 2 ∨ k = 3 ∨ k = 4 ∨ k = 5 ∨ k = 6 ∨ k = 7 ∨ k = 8 ∨ k = 9 ∨ k = 10 ∨ k = 11 ∨ k = 12 ∨ k = 13 := by
 unfold r8 at h
 (repeat' split at h) <;> omega

theorem Ty.cnt_pos (t : Ty) : 1 ≤ t.cnt := by cases t; simp only [Ty.cnt]; omega
theorem Pre.sub {g g' : List Tg} {k : Int} {nm ot : ByteArray} {m : Int} {ty re : Ty} {l : List Tm} {n : Int} {x : Tm} (h : Pre g (.mk k nm ot m ty re l) n) (hx : x ∈ l) (hl : g'.length ≤ g.length + 2) (ht : ∀ y ∈ g', y.ty.cnt ≤ 64) : Pre g' x (zu k n) := by
 have h1 := h.len
 have h2 := zR hx
 have h3 := ty.cnt_pos
 have h4 := re.cnt_pos
 simp only [Tm.cnt] at h1
 refine ⟨(za h.ok).sub x hx, ?_, by omega, ht⟩
 have := h.lev
 simp only [Tm.lev, Bool.and_eq_true] at this
 exact zEs this.2 hx
theorem Pre.lv {g : List Tg} {e : Tm} {n : Int} (h : Pre g e n) : 0 ≤ n ∧ n ≤ 2 := by
 have := h.lev
 cases e
 simp only [Tm.lev, Bool.and_eq_true] at this
 exact yJ.1 this.1
theorem tD {g : List Tg} (h : ∀ y ∈ g, y.ty.cnt ≤ 64) {x : Tg} (hx : x.ty.cnt ≤ 64) : ∀ y ∈ g ++ [x], y.ty.cnt ≤ 64 := fun y hy => by
 rcases List.mem_append.1 hy with hy | hy
 ·exact h y hy
 ·rw [List.mem_singleton] at hy; subst hy; exact hx
theorem zGz (e : Tm) (g : List Tg) (n : Int) : ((e.type g n).getD tZero).cnt ≤ 30 := by
 cases h : e.type g n with
 | none => simp [tZero, Ty.cnt, zH]
 | some t => simpa using Ty.valid_cnt (Tm.type_valid h)

/-- returns this type and true, or the zero type and false -/
def zPL (f : FuncId) (args : List PV) (o : Option Ty) : Prop := ∀ (N : Nat) (Q : QT [.ag 2, .bool]), (∀ d N', N ≤ N' → (o.getD tZero).Is d → Q d o.isSome N') → ACalls prog f [.ag 2, .bool] args N Q
/-- returns this type and true, or false -/
def zPg (f : FuncId) (args : List PV) (o : Option Ty) : Prop := ∀ (N : Nat) (Q : QT [.ag 2, .bool]), (∀ d N', N ≤ N' → (∀ t, o = some t → t.Is d) → Q d o.isSome N') → ACalls prog f [.ag 2, .bool] args N Q
def IH (l : List Tm) : Prop := ∀ x ∈ l, ∀ d, x.Is d → ∀ g es a c n, Pre g x n → Ctx g es → zPL 88 [.sv a 4 es c, .dg 9 d, .int .i64 n] (x.type g n)

theorem zOz {nm ot : ByteArray} {m n : Int} {ty re : Ty} {e0 : Tm} {t0 t1 r0 r1 d0 : D} {a1 a : Option Addr} {c1 c : Nat} {g : List Tg} {es : List D} (ih : IH [e0]) (hh : Tm.Hd nm ot ty re t0 t1 r0 r1) (h0 : e0.Is d0)
  (pre : Pre g (.mk 6 nm ot m ty re [e0]) n) (ctx : Ctx g es) :
  zPg 180 [.sv a 4 es c, .dg 9 (.ag [.lit (.int .i64 6), .lit (.string nm), .lit (.string ot), .lit (.int .i64 m), t0, t1, r0, r1, .sl a1 9 [d0] c1]), .int .i64 n] (match e0.type (g ++ [⟨nm, ty, n⟩]) n with | some b => some (vm ty b) | none => none) := fun N Q hQ => by
 have hlen := pre.len
 have hv := Ty.valid_cnt ((za pre.ok).vt (.inl rfl))
 have hp : Pre (g ++ [⟨nm, ty, n⟩]) e0 n := by simpa [zu] using pre.sub (x := e0) (by simp) (g' := g ++ [⟨nm, ty, n⟩]) (by simp) (tD pre.ty (show ty.cnt ≤ 64 by omega))
 have hc := zGz e0 (g ++ [⟨nm, ty, n⟩]) n
 refine te N a es c _ n Q fun _ _ => ?_
 repeat' first|with_reducible intro _|simp only[List.length_cons, List.length_nil,Y1,Y2,Y3,Y4]|(with_reducible first|refine X1 ?_ ?_|refine X2 ?_ ?_|refine X3 ?_ ?_|refine X4 ?_ ?_|refine X5 ?_ ?_|refine X6 ?_ ?_|refine X7 ?_ ?_|refine X8 ?_ ?_|refine X9 ?_ ?_)|refine⟨_,_,_,rfl,?_⟩|refine⟨_,rfl,?_⟩|((with_reducible refine And.intro ?_ ?_);·first|omega|trivial|(show _=_;rfl)|((with_reducible refine And.intro ?_ ?_)<;>first|omega|trivial|(show _=_;rfl)))|refine (yq ctx (by omega) a c hh.nm hh.ty n) _ _ ?_|refine (ih e0 List.mem_cons_self d0 h0 (g ++ [⟨nm, ty, n⟩]) _ _ _ n hp (by assumption)) _ _ ?_|refine (s7 ty ((e0.type (g ++ [⟨nm, ty, n⟩]) n).getD tZero) _ _ hh.ty (by assumption) (by omega) (by omega)) _ _ ?_|fail
 all_goals first | (exfalso; omega) | skip
 rename_i x1 N6 hN6 hx1 ho _ _ N7 hN7
 cases h : e0.type (g ++ [⟨nm, ty, n⟩]) n with
 | none => rw [h] at hQ; exact hQ _ _ (by omega) (by simp)
 | some b => rw [h] at hQ hx1; exact hQ _ _ (by omega) (by simpa using hx1)
theorem zOe {nm ot : ByteArray} {m n : Int} {ty re : Ty} {e0 e1 : Tm} {t0 t1 r0 r1 d0 d1 : D} {a1 a : Option Addr} {c1 c : Nat} {g : List Tg} {es : List D} (ih : IH [e0, e1]) (hh : Tm.Hd nm ot ty re t0 t1 r0 r1) (h0 : e0.Is d0) (h1 : e1.Is d1)
  (pre : Pre g (.mk 8 nm ot m ty re [e0, e1]) n) (ctx : Ctx g es) :
  zPg 180 [.sv a 4 es c, .dg 9 (.ag [.lit (.int .i64 8), .lit (.string nm), .lit (.string ot), .lit (.int .i64 m), t0, t1, r0, r1, .sl a1 9 [d0, d1] c1]), .int .i64 n] (match e0.type g n with | some b => e1.type (g ++ [⟨nm, b, n⟩]) n | none => none) := fun N Q hQ => by
 have hlen := pre.len
 have hp : Pre g e0 n := by simpa [zu] using pre.sub (x := e0) (by simp) (g' := g) (by simp) pre.ty
 have hc := zGz e0 g n
 have ih0 := ih e0 List.mem_cons_self d0 h0 g es a c n hp ctx
 refine te N a es c _ n Q fun _ _ => ?_
 cases h : e0.type g n with
 | none =>
   rw [h] at hQ ih0
   repeat' first|with_reducible intro _|simp only[List.length_cons, List.length_nil, Option.isSome_none,Y1,Y2,Y3,Y4]|(with_reducible first|refine X1 ?_ ?_|refine X2 ?_ ?_|refine X3 ?_ ?_|refine X4 ?_ ?_|refine X5 ?_ ?_|refine X6 ?_ ?_|refine X7 ?_ ?_|refine X8 ?_ ?_|refine X9 ?_ ?_)|refine⟨_,_,_,rfl,?_⟩|refine⟨_,rfl,?_⟩|((with_reducible refine And.intro ?_ ?_);·first|omega|trivial|(show _=_;rfl)|((with_reducible refine And.intro ?_ ?_)<;>first|omega|trivial|(show _=_;rfl)))|refine ih0 _ _ ?_|fail
   all_goals first | (exfalso; omega) | skip
   exact hQ _ _ (by omega) (by simp)
 | some b =>
   rw [h] at hQ hc ih0
   dsimp only at hQ
   have hp1 : Pre (g ++ [⟨nm, b, n⟩]) e1 n := by simpa [zu] using pre.sub (x := e1) (by simp) (g' := g ++ [⟨nm, b, n⟩]) (by simp) (tD pre.ty (by simpa using Nat.le_trans hc (by omega)))
   repeat' first|with_reducible intro _|simp only[List.length_cons, List.length_nil, Option.isSome_some,Y1,Y2,Y3,Y4]|(with_reducible first|refine X1 ?_ ?_|refine X2 ?_ ?_|refine X3 ?_ ?_|refine X4 ?_ ?_|refine X5 ?_ ?_|refine X6 ?_ ?_|refine X7 ?_ ?_|refine X8 ?_ ?_|refine X9 ?_ ?_)|refine⟨_,_,_,rfl,?_⟩|refine⟨_,rfl,?_⟩|((with_reducible refine And.intro ?_ ?_);·first|omega|trivial|(show _=_;rfl)|((with_reducible refine And.intro ?_ ?_)<;>first|omega|trivial|(show _=_;rfl)))|refine ih0 _ _ ?_|refine (yq ctx (by omega) a c hh.nm (t := b) (by assumption) n) _ _ ?_|refine (ih e1 (by simp) d1 h1 (g ++ [⟨nm, b, n⟩]) _ _ _ n hp1 (by assumption)) _ _ ?_|fail
   all_goals first | (exfalso; omega) | skip
   rename_i hx _ _ _ _
   refine hQ _ _ (by omega) fun t ht => ?_
   rw [ht] at hx
   exact hx
theorem zON {nm ot : ByteArray} {m n : Int} {ty re : Ty} {e0 : Tm} {t0 t1 r0 r1 d0 : D} {a1 a : Option Addr} {c1 c : Nat} {g : List Tg} {es : List D} (ih : IH [e0]) (hh : Tm.Hd nm ot ty re t0 t1 r0 r1) (h0 : e0.Is d0)
  (pre : Pre g (.mk 9 nm ot m ty re [e0]) n) (ctx : Ctx g es) :
  zPg 180 [.sv a 4 es c, .dg 9 (.ag [.lit (.int .i64 9), .lit (.string nm), .lit (.string ot), .lit (.int .i64 m), t0, t1, r0, r1, .sl a1 9 [d0] c1]), .int .i64 n]
   (match e0.type ((g ++ [⟨nm, vm ty re, n⟩]) ++ [⟨ot, ty, n⟩]) n with | some b => if uP b re then some (vm ty re) else none | none => none) := fun N Q hQ => by
 have hlen := pre.len
 have hv := Ty.valid_cnt ((za pre.ok).vt (.inr rfl))
 have hr := Ty.valid_cnt ((za pre.ok).vr rfl)
 have hg1 := tD (x := ⟨nm, vm ty re, n⟩) pre.ty (show (vm ty re).cnt ≤ 64 by simp only [vm, Ty.cnt, zH]; omega)
 have hp := pre.sub (x := e0) (by simp) (g' := (g ++ [⟨nm, vm ty re, n⟩]) ++ [⟨ot, ty, n⟩]) (by simp) (tD hg1 (show ty.cnt ≤ 64 by omega))
 rw [show zu 9 n = n by simp [zu]] at hp
 have h1c : 1 ≤ (Tm.mk 9 nm ot m ty re [e0]).cnt := by simp only [Tm.cnt]; omega
 have hgl : (g ++ [⟨nm, vm ty re, n⟩] : List Tg).length ≤ 1073741824 := by rw [List.length_append, List.length_singleton]; omega
 have ih0 : ∀ es a c, Ctx ((g ++ [⟨nm, vm ty re, n⟩]) ++ [⟨ot, ty, n⟩]) es → zPL 88 [.sv a 4 es c, .dg 9 d0, .int .i64 n] (e0.type ((g ++ [⟨nm, vm ty re, n⟩]) ++ [⟨ot, ty, n⟩]) n) := fun es a c hc => ih e0 List.mem_cons_self d0 h0 _ es a c n hp hc
 refine te N a es c _ n Q fun _ _ => ?_
 cases h : e0.type ((g ++ [⟨nm, vm ty re, n⟩]) ++ [⟨ot, ty, n⟩]) n with
 | none =>
   rw [h] at hQ ih0
   dsimp only at hQ
   repeat' first|with_reducible intro _|simp only[List.length_cons, List.length_nil, Option.isSome_none,Y1,Y2,Y3,Y4]|(with_reducible first|refine X1 ?_ ?_|refine X2 ?_ ?_|refine X3 ?_ ?_|refine X4 ?_ ?_|refine X5 ?_ ?_|refine X6 ?_ ?_|refine X7 ?_ ?_|refine X8 ?_ ?_|refine X9 ?_ ?_)|refine⟨_,_,_,rfl,?_⟩|refine⟨_,rfl,?_⟩|((with_reducible refine And.intro ?_ ?_);·first|omega|trivial|(show _=_;rfl)|((with_reducible refine And.intro ?_ ?_)<;>first|omega|trivial|(show _=_;rfl)))|refine (s7 ty re _ _ hh.ty hh.re (by omega) (by omega)) _ _ ?_|refine (yq ctx (by omega) a c hh.nm (t := vm ty re) (by assumption) n) _ _ ?_|refine (yq (g := g ++ [⟨nm, vm ty re, n⟩]) (by assumption) hgl _ _ hh.ot hh.ty n) _ _ ?_|refine (ih0 _ _ _ (by assumption)) _ _ ?_|fail
   all_goals first | (exfalso; omega) | skip
   exact hQ _ _ (by omega) (by simp)
 | some b =>
   rw [h] at hQ ih0
   dsimp only at hQ
   repeat' first|with_reducible intro _|simp only[List.length_cons, List.length_nil, Option.isSome_some,Y1,Y2,Y3,Y4]|(with_reducible first|refine X1 ?_ ?_|refine X2 ?_ ?_|refine X3 ?_ ?_|refine X4 ?_ ?_|refine X5 ?_ ?_|refine X6 ?_ ?_|refine X7 ?_ ?_|refine X8 ?_ ?_|refine X9 ?_ ?_)|refine⟨_,_,_,rfl,?_⟩|refine⟨_,rfl,?_⟩|((with_reducible refine And.intro ?_ ?_);·first|omega|trivial|(show _=_;rfl)|((with_reducible refine And.intro ?_ ?_)<;>first|omega|trivial|(show _=_;rfl)))|refine (s7 ty re _ _ hh.ty hh.re (by omega) (by omega)) _ _ ?_|refine (yq ctx (by omega) a c hh.nm (t := vm ty re) (by assumption) n) _ _ ?_|refine (yq (g := g ++ [⟨nm, vm ty re, n⟩]) (by assumption) hgl _ _ hh.ot hh.ty n) _ _ ?_|refine (ih0 _ _ _ (by assumption)) _ _ ?_|refine (w6 b re _ _ (by assumption) hh.re) _ _ ?_|fail
   all_goals first | (exfalso; omega) | skip
   cases he : uP b re with
   | false => rw [he] at hQ; exact hQ _ _ (by omega) (by simp)
   | true => rw [he] at hQ; exact hQ _ _ (by omega) fun t ht => by cases ht; assumption
/-- code, splices, runs and lifts -/
theorem zOW {k : Int} {nm ot : ByteArray} {m n : Int} {ty re : Ty} {e0 : Tm} {t0 t1 r0 r1 d0 : D} {a1 a : Option Addr} {c1 c : Nat} {g : List Tg} {es : List D} (hk : k = 10 ∨ k = 11 ∨ k = 12 ∨ k = 13) (ih : IH [e0]) (h0 : e0.Is d0)
  (pre : Pre g (.mk k nm ot m ty re [e0]) n) (ctx : Ctx g es) :
  zPg 181 [.sv a 4 es c, .dg 9 (.ag [.lit (.int .i64 k), .lit (.string nm), .lit (.string ot), .lit (.int .i64 m), t0, t1, r0, r1, .sl a1 9 [d0] c1]), .int .i64 n]
   (match e0.type (if k = 12 then uX g n else g) (zu k n) with | some t => yg k t | none => none) := fun N Q hQ => by
 have hlen := pre.len
 have hsub := zAt g n g 0
 have hp := pre.sub (x := e0) (by simp) (g' := if k = 12 then uX g n else g) (by split <;> simp [uX]; omega) (by split; exact fun y hy => pre.ty y (hsub.1 y hy); exact pre.ty)
 have ih0 : ∀ es a c, Ctx (if k = 12 then uX g n else g) es → zPL 88 [.sv a 4 es c, .dg 9 d0, .int .i64 (zu k n)] (e0.type (if k = 12 then uX g n else g) (zu k n)) := fun es a c hc => ih e0 List.mem_cons_self d0 h0 _ es a c _ hp hc
 have hc2 : ∀ x ∈ g, x.ty.cnt ≤ 1073741824 := fun x hx => Nat.le_trans (pre.ty x hx) (by omega)
 refine zD7 N a es c _ n Q fun _ _ => ?_
 cases h : e0.type (if k = 12 then uX g n else g) (zu k n) with
 | none =>
   rw [h] at hQ ih0
   dsimp only at hQ
   repeat' first|with_reducible intro _|simp only[List.length_cons, List.length_nil, Option.isSome_none,Y1,Y2,Y3,Y4]|(with_reducible first|refine X1 ?_ ?_|refine X2 ?_ ?_|refine X3 ?_ ?_|refine X4 ?_ ?_|refine X5 ?_ ?_|refine X6 ?_ ?_|refine X7 ?_ ?_|refine X8 ?_ ?_|refine X9 ?_ ?_)|refine⟨_,_,_,rfl,?_⟩|refine⟨_,rfl,?_⟩|((with_reducible refine And.intro ?_ ?_);·first|omega|trivial|(show _=_;rfl)|((with_reducible refine And.intro ?_ ?_)<;>first|omega|trivial|(show _=_;rfl)))|refine (qT ctx (by omega) hc2 a c n) _ _ ?_|refine (pC pre.lv) _ _ ?_|refine (ih0 _ _ _ (by first | (rw [if_pos (by assumption)]; assumption) | (rw [if_neg (by assumption)]; assumption))) _ _ ?_|fail
   all_goals first | (exfalso; omega) | skip
   all_goals exact hQ _ _ (by omega) (by simp)
 | some t =>
   have hv := Tm.type_valid h
   rw [h] at hQ ih0
   dsimp only at hQ
   cases t with
   | mk k0 l0 =>
   have hf := Ty.form_len hv
   have hcn := Ty.valid_cnt hv
   repeat' first|with_reducible intro _|simp only[List.length_cons, List.length_nil, Option.isSome_some,Y1,Y2,Y3,Y4]|(with_reducible first|refine X1 ?_ ?_|refine X2 ?_ ?_|refine X3 ?_ ?_|refine X4 ?_ ?_|refine X5 ?_ ?_|refine X6 ?_ ?_|refine X7 ?_ ?_|refine X8 ?_ ?_|refine X9 ?_ ?_)|refine⟨_,_,_,rfl,?_⟩|refine⟨_,rfl,?_⟩|((with_reducible refine And.intro ?_ ?_);·first|omega|trivial|(show _=_;rfl)|((with_reducible refine And.intro ?_ ?_)<;>first|omega|trivial|(show _=_;rfl)))|refine (qT ctx (by omega) hc2 a c n) _ _ ?_|refine (pC pre.lv) _ _ ?_|refine (ih0 _ _ _ (by first | (rw [if_pos (by assumption)]; assumption) | (rw [if_neg (by assumption)]; assumption))) _ _ ?_|refine (zG5 (.mk k0 l0) _ (by assumption) (by omega)) _ _ ?_|refine (tY (.mk k0 l0) _ (by assumption)) _ _ ?_|fail
   all_goals first | (exfalso; omega) | skip
   ·rename_i hd _ _ h10 h13
    obtain ⟨a2, es2, c2, rfl, hl2, he2⟩ := Ty.is_mk.1 hd
    by_cases h4 : k0 = 4
    ·subst h4
     have hl1 : (l0.length : Int) = 1 := by simpa [rr] using hf
     obtain ⟨u, rfl⟩ : ∃ u, l0 = [u] := by
      match l0, hl1 with
      | [u], _ => exact ⟨u, rfl⟩
      | [], h => simp at h
      | _ :: _ :: _, h => simp at h; omega
     obtain ⟨x0, _, rfl, hx0, rfl⟩ := he2
     simp only [Ty.cnt, zH] at hcn
     have hs : yg k (.mk 4 [u]) = some u := by simp [yg, h10, h13, Ty.k, Ty.as]
     rw [hs] at hQ
     repeat' first|with_reducible intro _|simp only[List.length_cons, List.length_nil,Y1,Y2,Y3,Y4]|(with_reducible first|refine X1 ?_ ?_|refine X2 ?_ ?_|refine X3 ?_ ?_|refine X4 ?_ ?_|refine X5 ?_ ?_|refine X6 ?_ ?_|refine X7 ?_ ?_|refine X8 ?_ ?_|refine X9 ?_ ?_)|refine⟨_,_,_,rfl,?_⟩|refine⟨_,rfl,?_⟩|((with_reducible refine And.intro ?_ ?_);·first|omega|trivial|(show _=_;rfl)|((with_reducible refine And.intro ?_ ?_)<;>first|omega|trivial|(show _=_;rfl)))|refine (zU u _ hx0 (by omega)) _ _ ?_|fail
     all_goals first | (exfalso; omega) | skip
     exact hQ _ _ (by omega) fun t ht => by cases ht; assumption
    ·have hs : yg k (.mk k0 l0) = none := by simp [yg, h10, h13, Ty.k, h4]
     rw [hs] at hQ
     repeat' first|with_reducible intro _|simp only[List.length_cons, List.length_nil,Y1,Y2,Y3,Y4]|(with_reducible first|refine X1 ?_ ?_|refine X2 ?_ ?_|refine X3 ?_ ?_|refine X4 ?_ ?_|refine X5 ?_ ?_|refine X6 ?_ ?_|refine X7 ?_ ?_|refine X8 ?_ ?_|refine X9 ?_ ?_)|refine⟨_,_,_,rfl,?_⟩|refine⟨_,rfl,?_⟩|((with_reducible refine And.intro ?_ ?_);·first|omega|trivial|(show _=_;rfl)|((with_reducible refine And.intro ?_ ?_)<;>first|omega|trivial|(show _=_;rfl)))|fail
     all_goals first | (exfalso; omega) | skip
     exact hQ _ _ (by omega) (by simp)
   ·have hs : yg k (.mk k0 l0) = some (zBn (.mk k0 l0)) := by rw [yg, if_pos (by assumption)]
    rw [hs] at hQ
    exact hQ _ _ (by omega) fun t ht => by cases ht; assumption
   ·have hs : yg k (.mk k0 l0) = if (Ty.mk k0 l0).base then some (zBn (.mk k0 l0)) else none := by rw [yg, if_neg (by assumption), if_pos (by assumption)]
    rw [hs] at hQ
    cases hb : (Ty.mk k0 l0).base with
    | false => rw [hb] at hQ; exact hQ _ _ (by omega) (by simp)
    | true => rw [hb] at hQ; exact hQ _ _ (by omega) fun t ht => by cases ht; assumption
   ·rename_i hd _ _ h10 h13
    obtain ⟨a2, es2, c2, rfl, hl2, he2⟩ := Ty.is_mk.1 hd
    by_cases h4 : k0 = 4
    ·subst h4
     have hl1 : (l0.length : Int) = 1 := by simpa [rr] using hf
     obtain ⟨u, rfl⟩ : ∃ u, l0 = [u] := by
      match l0, hl1 with
      | [u], _ => exact ⟨u, rfl⟩
      | [], h => simp at h
      | _ :: _ :: _, h => simp at h; omega
     obtain ⟨x0, _, rfl, hx0, rfl⟩ := he2
     simp only [Ty.cnt, zH] at hcn
     have hs : yg k (.mk 4 [u]) = some u := by simp [yg, h10, h13, Ty.k, Ty.as]
     rw [hs] at hQ
     repeat' first|with_reducible intro _|simp only[List.length_cons, List.length_nil,Y1,Y2,Y3,Y4]|(with_reducible first|refine X1 ?_ ?_|refine X2 ?_ ?_|refine X3 ?_ ?_|refine X4 ?_ ?_|refine X5 ?_ ?_|refine X6 ?_ ?_|refine X7 ?_ ?_|refine X8 ?_ ?_|refine X9 ?_ ?_)|refine⟨_,_,_,rfl,?_⟩|refine⟨_,rfl,?_⟩|((with_reducible refine And.intro ?_ ?_);·first|omega|trivial|(show _=_;rfl)|((with_reducible refine And.intro ?_ ?_)<;>first|omega|trivial|(show _=_;rfl)))|refine (zU u _ hx0 (by omega)) _ _ ?_|fail
     all_goals first | (exfalso; omega) | skip
     exact hQ _ _ (by omega) fun t ht => by cases ht; assumption
    ·have hs : yg k (.mk k0 l0) = none := by simp [yg, h10, h13, Ty.k, h4]
     rw [hs] at hQ
     repeat' first|with_reducible intro _|simp only[List.length_cons, List.length_nil,Y1,Y2,Y3,Y4]|(with_reducible first|refine X1 ?_ ?_|refine X2 ?_ ?_|refine X3 ?_ ?_|refine X4 ?_ ?_|refine X5 ?_ ?_|refine X6 ?_ ?_|refine X7 ?_ ?_|refine X8 ?_ ?_|refine X9 ?_ ?_)|refine⟨_,_,_,rfl,?_⟩|refine⟨_,rfl,?_⟩|((with_reducible refine And.intro ?_ ?_);·first|omega|trivial|(show _=_;rfl)|((with_reducible refine And.intro ?_ ?_)<;>first|omega|trivial|(show _=_;rfl)))|fail
     all_goals first | (exfalso; omega) | skip
     exact hQ _ _ (by omega) (by simp)
end Go.Proofs.YtfkmegifjiiclaaGreat
