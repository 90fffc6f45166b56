/- The reference's TypeOf. -/
import Derived.Test.YtfkmegifjiiclaaGreatVl
set_option linter.unusedVariables false
set_option linter.unusedSimpArgs false
namespace Go.Proofs.YtfkmegifjiiclaaGreat
open Go Go.Proofs Go.Proofs.Tryz Go.IntWalk

/-- the type of a term ahead of the test that it is valid -/
def Tm.raw : Tm → List Tg → Int → Option Ty
 | .mk k nm ot _ ty re l, g, n =>
   if k = 1 then rp g nm n
   else if k = 2 then some tInt
   else if k = 3 then some tBool
   else if k = 6 then (match wu l 0 (g ++ [⟨nm, ty, n⟩]) n with | some b => some (vm ty b) | none => none)
   else if k = 8 then (match wu l 0 g n with | some a => wu l 1 (g ++ [⟨nm, a, n⟩]) n | none => none)
   else if k = 9 then (match wu l 0 ((g ++ [⟨nm, vm ty re, n⟩]) ++ [⟨ot, ty, n⟩]) n with | some b => if uP b re then some (vm ty re) else none | none => none)
   else if k = 10 ∨ k = 11 ∨ k = 12 ∨ k = 13 then (match wu l 0 (if k = 12 then uX g n else g) (zu k n) with | some t => yg k t | none => none)
   else (match ze l g n with | some ts => yV k nm ts | none => none)
theorem Tm.type_eq (e : Tm) (g : List Tg) (n : Int) : e.type g n = vld (e.raw g n) := by
 cases e; simp only [Tm.type, Tm.raw]; rfl

theorem zPX {a : Option Addr} {r : List D} {d : D} {N : Nat} (ha : ApA a r) (hb : rY N [a]) (h : ∀ x ∈ d.foot, x ∈ zA r ∨ N ≤ x) : Off [a] d := by
 intro a' ha' ad had hm
 rw [List.mem_singleton] at ha'
 subst ha'
 rcases h _ hm with h | h
 ·have : ∀ r : List D, ad.block ∈ zA r → ∃ d ∈ r, ad.block ∈ d.foot := by
   intro r
   induction r with
   | nil => intro h; simp [zA] at h
   | cons x r ih =>
     intro h
     simp only [zA, List.mem_append] at h
     rcases h with h | h
     ·exact ⟨x, by simp, h⟩
     ·obtain ⟨d, hd, hm⟩ := ih h
      exact ⟨d, by simp [hd], hm⟩
  obtain ⟨d', hd', hm'⟩ := this r h
  exact ha ad had d' hd' hm'
 ·have := hb a' (by simp) ad had
  omega

theorem zMF {k : Int} {nm ot : ByteArray} {m n : Int} {ty re : Ty} {l : List Tm} {t0 t1 r0 r1 : D} {es1 : List D} {a1 a : Option Addr} {c1 c : Nat} {g : List Tg} {es : List D} (hk : k = 4 ∨ k = 5 ∨ k = 7) (ih : IH l) (h0 : All2 Tm.Is l es1) (hl1 : es1.length ≤ 4611686018427387904)
  (pre : Pre g (.mk k nm ot m ty re l) n) (ctx : Ctx g es) (N : Nat) (Q : QT [.ag 2, .bool]) (hQ : ∀ d N', N ≤ N' → (∀ t, Tm.raw (.mk k nm ot m ty re l) g n = some t → t.Is d) → Q d (Tm.raw (.mk k nm ot m ty re l) g n).isSome N') :
  yy Q N a es c n 0 0 (0 : Nat) (.ag [.lit (.int .i64 k), .lit (.string nm), .lit (.string ot), .lit (.int .i64 m), t0, t1, r0, r1, .sl a1 9 es1 c1]) 0 none [] 0 [] 0 N := by
 have hlen := pre.len
 have hcl := yT l
 have hln := h0.len
 have nd := za pre.ok
 simp only [Tm.cnt] at hlen
 have hraw : Tm.raw (.mk k nm ot m ty re l) g n = (match ze l g n with | some ts => yV k nm ts | none => none) := by
  simp only [Tm.raw]
  rw [if_neg (by omega), if_neg (by omega), if_neg (by omega), if_neg (by omega), if_neg (by omega), if_neg (by omega), if_neg (by omega)]
 rw [hraw] at hQ
 refine up h0 hl1 (fun i xs => ∀ (r : List D) (q p : Nat) (N' : Nat) (ts : List Ty), N ≤ N' → p = r.length → All2 Ty.Is ts r → ts.length = i → (∀ t ∈ ts, t.valid = true) →
  ze l g n = (match ze xs g n with | some us => some (ts ++ us) | none => none) →
  yy Q N a es c n p q i (.ag [.lit (.int .i64 k), .lit (.string nm), .lit (.string ot), .lit (.int .i64 m), t0, t1, r0, r1, .sl a1 9 es1 c1]) 0 none [] 0 r q N') ?_ ?_ [] 0 0 N [] (Nat.le_refl _) rfl rfl rfl (by simp) ?_
 ·intro i hlt hi r q p N' ts hN' hp hr hti hv hargs
  have hrl := hr.len
  simp only [ze, List.append_nil] at hargs
  rw [hargs] at hQ
  dsimp only at hQ
  have hk2 : k = 4 ∨ k = 5 ∧ ts.length = 3 ∨ k = 7 ∧ ts.length = 2 := by
   have := nd.ar
   rcases hk with rfl | rfl | rfl
   ·exact .inl rfl
   ·exact .inr (.inl ⟨rfl, by have : (l.length : Int) = 3 := this
                              omega⟩)
   ·exact .inr (.inr ⟨rfl, by have : (l.length : Int) = 2 := this
                              omega⟩)
  refine sP _ _ _ _ _ _ _ _ _ _ _ _ _ _ _ _ _ ?_
  repeat' first|with_reducible intro _|simp only[hlt,Y1,Y2,Y3,Y4]|(with_reducible first|refine X1 ?_ ?_|refine X2 ?_ ?_|refine X3 ?_ ?_|refine X4 ?_ ?_|refine X5 ?_ ?_|refine X6 ?_ ?_|refine X7 ?_ ?_|refine X8 ?_ ?_|refine X9 ?_ ?_)|refine⟨_,_,_,rfl,?_⟩|refine⟨_,rfl,?_⟩|((with_reducible refine And.intro ?_ ?_);·first|omega|trivial|(show _=_;rfl)|((with_reducible refine And.intro ?_ ?_)<;>first|omega|trivial|(show _=_;rfl)))|refine (zGH hr (by omega) _ _ hv hk2) _ _ ?_|fail
  rename_i a2 hap hoff N4 hN4 hba d b N5 hN5 ho hfo _
  refine ⟨zPX hap hba hfo, fun _ N6 hN6 => ?_⟩
  cases h : yV k nm ts with
  | none => rw [h] at ho hQ; simp only [zKy] at ho; subst ho; exact hQ _ _ (by omega) (by simp)
  | some t => rw [h] at ho hQ; obtain ⟨rfl, ho⟩ := ho; exact hQ _ _ (by omega) fun t ht => by cases ht; exact ho
 ·intro i x xs hat _ ih2 r q p N' ts hN' hp hr hti hv hargs
  have hb := hat.b
  have hrl := hr.len
  have hpx := pre.sub hat.m (g' := g) (by omega) pre.ty
  rw [show zu k n = n by simp only [zu]; rw [if_neg (by omega), if_neg (by omega)]] at hpx
  have ih0 := ih x hat.m _ hat.r g es a c n hpx ctx
  simp only [ze] at hargs
  refine sP _ _ _ _ _ _ _ _ _ _ _ _ _ _ _ _ _ ?_
  cases h : x.type g n with
  | none =>
    rw [h] at ih0 hargs
    dsimp only at hargs
    rw [hargs] at hQ
    repeat' first|with_reducible intro _|simp only[hat.lt, hat.w, Int.toNat_natCast, Option.isSome_none,Y1,Y2,Y3,Y4]|(with_reducible first|refine X1 ?_ ?_|refine X2 ?_ ?_|refine X3 ?_ ?_|refine X4 ?_ ?_|refine X5 ?_ ?_|refine X6 ?_ ?_|refine X7 ?_ ?_|refine X8 ?_ ?_|refine X9 ?_ ?_)|refine⟨_,_,_,rfl,?_⟩|refine⟨_,rfl,?_⟩|((with_reducible refine And.intro ?_ ?_);·first|omega|trivial|(show _=_;rfl)|((with_reducible refine And.intro ?_ ?_)<;>first|omega|trivial|(show _=_;rfl)))|refine ih0 _ _ ?_|fail
    all_goals first | (exfalso; omega) | skip
    exact hQ _ _ (by omega) (by simp)
  | some t =>
    have hvt := Tm.type_valid h
    rw [h] at ih0 hargs
    dsimp only at hargs
    repeat' first|with_reducible intro _|simp only[hat.lt, hat.w, Int.toNat_natCast, Option.isSome_some,Y1,Y2,Y3,Y4]|(with_reducible first|refine X1 ?_ ?_|refine X2 ?_ ?_|refine X3 ?_ ?_|refine X4 ?_ ?_|refine X5 ?_ ?_|refine X6 ?_ ?_|refine X7 ?_ ?_|refine X8 ?_ ?_|refine X9 ?_ ?_)|refine⟨_,_,_,rfl,?_⟩|refine⟨_,rfl,?_⟩|((with_reducible refine And.intro ?_ ?_);·first|omega|trivial|(show _=_;rfl)|((with_reducible refine And.intro ?_ ?_)<;>first|omega|trivial|(show _=_;rfl)))|refine ih0 _ _ ?_|fail
    all_goals first | (exfalso; omega) | skip
    rename_i N2 hN2 d N3 hN3 hd _ _
    refine ⟨by unfold zB; simp only [List.length_append, List.length_singleton]; omega, fun c2 => ih2 _ _ _ _ (ts ++ [t]) (by omega) rfl (hr.snoc hd) (by simp [hti]) (fun u hu => ?_) ?_⟩
    ·rcases List.mem_append.1 hu with hu | hu
     ·exact hv u hu
     ·rw [List.mem_singleton] at hu; subst hu; exact hvt
    ·rw [hargs]; cases ze xs g n <;> simp
 ·cases ze l g n <;> simp
theorem zBK {α : Type} {l : List α} (h : l.length = 1) : ∃ a, l = [a] := by
 match l, h with
 | [a], _ => exact ⟨a, rfl⟩
theorem zKV {α : Type} {l : List α} (h : l.length = 2) : ∃ a b, l = [a, b] := by
 match l, h with
 | [a, b], _ => exact ⟨a, b, rfl⟩
theorem zFz {e : Tm} {d : D} (he : e.Is d) (ih : match e with | .mk _ _ _ _ _ _ l => IH l) {g : List Tg} {es : List D} {a : Option Addr} {c : Nat} {n : Int} (pre : Pre g e n) (ctx : Ctx g es) :
  zPg 140 [.sv a 4 es c, .dg 9 d, .int .i64 n] (e.raw g n) := fun N Q hQ => by
 cases e with
 | mk k nm ot m ty re l =>
 dsimp only at ih
 obtain ⟨t0, t1, r0, r1, a1, es1, c1, rfl, hh, hlen1, hes1⟩ := Tm.is_mk.1 he
 have hl := hes1.len
 have hl2 := ctx.all.len
 have nd := za pre.ok
 have har := nd.ar
 have hkk := zIp (k := k) (nm := nm) (by omega)
 refine zGI N a es c _ n Q fun _ _ => ?_
 rcases hkk with rfl | rfl | rfl | h | h | rfl | h | rfl | rfl | h | h | h | h
 ·-- a variable
  have hraw : Tm.raw (.mk 1 nm ot m ty re l) g n = rp g nm n := by simp [Tm.raw]
  rw [hraw] at hQ
  rcases zCR g nm g.length with hlx | hlx
  ·have hlx : yB g nm = -1 := hlx
   have : rp g nm n = none := by simp [rp, hlx]
   rw [this] at hQ
   repeat' first|with_reducible intro _|simp only[hlx,Y1,Y2,Y3,Y4]|(with_reducible first|refine X1 ?_ ?_|refine X2 ?_ ?_|refine X3 ?_ ?_|refine X4 ?_ ?_|refine X5 ?_ ?_|refine X6 ?_ ?_|refine X7 ?_ ?_|refine X8 ?_ ?_|refine X9 ?_ ?_)|refine⟨_,_,_,rfl,?_⟩|refine⟨_,rfl,?_⟩|((with_reducible refine And.intro ?_ ?_);·first|omega|trivial|(show _=_;rfl)|((with_reducible refine And.intro ?_ ?_)<;>first|omega|trivial|(show _=_;rfl)))|refine (tZ ctx a c nm) _ _ ?_|fail
   all_goals first | (exfalso; omega) | skip
   exact hQ _ _ (by omega) (by simp)
  ·have hlx : 0 ≤ yB g nm ∧ yB g nm < g.length := hlx
   have hg : g[(yB g nm).toNat]? = some g[(yB g nm).toNat] := List.getElem?_eq_getElem (by omega)
   have hx := ctx.all.get hg
   have hgd : g.getD (yB g nm).toNat tg0 = g[(yB g nm).toNat] := zFf hg
   obtain ⟨u0, u1, hd, hs, ht⟩ := hx
   have hm : g[(yB g nm).toNat] ∈ g := List.getElem_mem _
   have hcn := pre.ty _ hm
   have : rp g nm n = if g[(yB g nm).toNat].lv = n then some g[(yB g nm).toNat].ty else none := by
    rw [rp, if_neg (by omega), hgd]
   rw [this] at hQ
   generalize g[(yB g nm).toNat] = x at *
   repeat' first|with_reducible intro _|simp only[hd,Y1,Y2,Y3,Y4]|(with_reducible first|refine X1 ?_ ?_|refine X2 ?_ ?_|refine X3 ?_ ?_|refine X4 ?_ ?_|refine X5 ?_ ?_|refine X6 ?_ ?_|refine X7 ?_ ?_|refine X8 ?_ ?_|refine X9 ?_ ?_)|refine⟨_,_,_,rfl,?_⟩|refine⟨_,rfl,?_⟩|((with_reducible refine And.intro ?_ ?_);·first|omega|trivial|(show _=_;rfl)|((with_reducible refine And.intro ?_ ?_)<;>first|omega|trivial|(show _=_;rfl)))|refine (tZ ctx a c nm) _ _ ?_|refine (zU _ _ ht (by omega)) _ _ ?_|fail
   all_goals first | (exfalso; omega) | skip
   ·rw [if_neg (by assumption)] at hQ; exact hQ _ _ (by omega) (by simp)
   ·rw [if_pos (by assumption)] at hQ; exact hQ _ _ (by omega) fun t ht => by cases ht; assumption
 ·have hraw : Tm.raw (.mk 2 nm ot m ty re l) g n = some tInt := by simp [Tm.raw]
  rw [hraw] at hQ
  repeat' first|with_reducible intro _|simp only[Y1,Y2,Y3,Y4]|(with_reducible first|refine X1 ?_ ?_|refine X2 ?_ ?_|refine X3 ?_ ?_|refine X4 ?_ ?_|refine X5 ?_ ?_|refine X6 ?_ ?_|refine X7 ?_ ?_|refine X8 ?_ ?_|refine X9 ?_ ?_)|refine⟨_,_,_,rfl,?_⟩|refine⟨_,rfl,?_⟩|((with_reducible refine And.intro ?_ ?_);·first|omega|trivial|(show _=_;rfl)|((with_reducible refine And.intro ?_ ?_)<;>first|omega|trivial|(show _=_;rfl)))|refine zBD _ _ ?_|fail
  all_goals first | (exfalso; omega) | skip
  exact hQ _ _ (by omega) fun t ht => by cases ht; assumption
 ·have hraw : Tm.raw (.mk 3 nm ot m ty re l) g n = some tBool := by simp [Tm.raw]
  rw [hraw] at hQ
  repeat' first|with_reducible intro _|simp only[Y1,Y2,Y3,Y4]|(with_reducible first|refine X1 ?_ ?_|refine X2 ?_ ?_|refine X3 ?_ ?_|refine X4 ?_ ?_|refine X5 ?_ ?_|refine X6 ?_ ?_|refine X7 ?_ ?_|refine X8 ?_ ?_|refine X9 ?_ ?_)|refine⟨_,_,_,rfl,?_⟩|refine⟨_,rfl,?_⟩|((with_reducible refine And.intro ?_ ?_);·first|omega|trivial|(show _=_;rfl)|((with_reducible refine And.intro ?_ ?_)<;>first|omega|trivial|(show _=_;rfl)))|refine zAE _ _ ?_|fail
  all_goals first | (exfalso; omega) | skip
  exact hQ _ _ (by omega) fun t ht => by cases ht; assumption
 ·have hk : k = 4 ∨ k = 5 ∨ k = 7 := by omega
  have := zMF hk ih hes1 hlen1 pre ctx (a := a) (c := c) (t0 := t0) (t1 := t1) (r0 := r0) (r1 := r1) (a1 := a1) (c1 := c1) N Q hQ
  repeat' first|with_reducible intro _|simp only[Y1,Y2,Y3,Y4]|(with_reducible first|refine X1 ?_ ?_|refine X2 ?_ ?_|refine X3 ?_ ?_|refine X4 ?_ ?_|refine X5 ?_ ?_|refine X6 ?_ ?_|refine X7 ?_ ?_|refine X8 ?_ ?_|refine X9 ?_ ?_)|refine⟨_,_,_,rfl,?_⟩|refine⟨_,rfl,?_⟩|((with_reducible refine And.intro ?_ ?_);·first|omega|trivial|(show _=_;rfl)|((with_reducible refine And.intro ?_ ?_)<;>first|omega|trivial|(show _=_;rfl)))|fail
  all_goals first | (exfalso; omega) | exact this
 ·have hk : k = 4 ∨ k = 5 ∨ k = 7 := by omega
  have := zMF hk ih hes1 hlen1 pre ctx (a := a) (c := c) (t0 := t0) (t1 := t1) (r0 := r0) (r1 := r1) (a1 := a1) (c1 := c1) N Q hQ
  repeat' first|with_reducible intro _|simp only[Y1,Y2,Y3,Y4]|(with_reducible first|refine X1 ?_ ?_|refine X2 ?_ ?_|refine X3 ?_ ?_|refine X4 ?_ ?_|refine X5 ?_ ?_|refine X6 ?_ ?_|refine X7 ?_ ?_|refine X8 ?_ ?_|refine X9 ?_ ?_)|refine⟨_,_,_,rfl,?_⟩|refine⟨_,rfl,?_⟩|((with_reducible refine And.intro ?_ ?_);·first|omega|trivial|(show _=_;rfl)|((with_reducible refine And.intro ?_ ?_)<;>first|omega|trivial|(show _=_;rfl)))|fail
  all_goals first | (exfalso; omega) | exact this
 ·have h1 : l.length = 1 := by have : (l.length : Int) = 1 := har
                               omega
  obtain ⟨e0, rfl⟩ := zBK h1
  obtain ⟨d0, _, rfl, h0, rfl⟩ := hes1
  have hraw : Tm.raw (.mk 6 nm ot m ty re [e0]) g n = (match e0.type (g ++ [⟨nm, ty, n⟩]) n with | some b => some (vm ty b) | none => none) := by simp [Tm.raw, wu]
  rw [hraw] at hQ
  repeat' first|with_reducible intro _|simp only[Y1,Y2,Y3,Y4]|(with_reducible first|refine X1 ?_ ?_|refine X2 ?_ ?_|refine X3 ?_ ?_|refine X4 ?_ ?_|refine X5 ?_ ?_|refine X6 ?_ ?_|refine X7 ?_ ?_|refine X8 ?_ ?_|refine X9 ?_ ?_)|refine⟨_,_,_,rfl,?_⟩|refine⟨_,rfl,?_⟩|((with_reducible refine And.intro ?_ ?_);·first|omega|trivial|(show _=_;rfl)|((with_reducible refine And.intro ?_ ?_)<;>first|omega|trivial|(show _=_;rfl)))|refine (zOz ih hh h0 pre ctx) _ _ ?_|fail
  all_goals first | (exfalso; omega) | skip
  exact hQ _ _ (by omega) (by assumption)
 ·have hk : k = 4 ∨ k = 5 ∨ k = 7 := by omega
  have := zMF hk ih hes1 hlen1 pre ctx (a := a) (c := c) (t0 := t0) (t1 := t1) (r0 := r0) (r1 := r1) (a1 := a1) (c1 := c1) N Q hQ
  repeat' first|with_reducible intro _|simp only[Y1,Y2,Y3,Y4]|(with_reducible first|refine X1 ?_ ?_|refine X2 ?_ ?_|refine X3 ?_ ?_|refine X4 ?_ ?_|refine X5 ?_ ?_|refine X6 ?_ ?_|refine X7 ?_ ?_|refine X8 ?_ ?_|refine X9 ?_ ?_)|refine⟨_,_,_,rfl,?_⟩|refine⟨_,rfl,?_⟩|((with_reducible refine And.intro ?_ ?_);·first|omega|trivial|(show _=_;rfl)|((with_reducible refine And.intro ?_ ?_)<;>first|omega|trivial|(show _=_;rfl)))|fail
  all_goals first | (exfalso; omega) | exact this
 ·have h1 : l.length = 2 := by have : (l.length : Int) = 2 := har
                               omega
  obtain ⟨e0, e1, rfl⟩ := zKV h1
  obtain ⟨d0, _, rfl, h0, d1, _, rfl, h1, rfl⟩ := hes1
  have hraw : Tm.raw (.mk 8 nm ot m ty re [e0, e1]) g n = (match e0.type g n with | some b => e1.type (g ++ [⟨nm, b, n⟩]) n | none => none) := by simp [Tm.raw, wu]
  rw [hraw] at hQ
  repeat' first|with_reducible intro _|simp only[Y1,Y2,Y3,Y4]|(with_reducible first|refine X1 ?_ ?_|refine X2 ?_ ?_|refine X3 ?_ ?_|refine X4 ?_ ?_|refine X5 ?_ ?_|refine X6 ?_ ?_|refine X7 ?_ ?_|refine X8 ?_ ?_|refine X9 ?_ ?_)|refine⟨_,_,_,rfl,?_⟩|refine⟨_,rfl,?_⟩|((with_reducible refine And.intro ?_ ?_);·first|omega|trivial|(show _=_;rfl)|((with_reducible refine And.intro ?_ ?_)<;>first|omega|trivial|(show _=_;rfl)))|refine (zOe ih hh h0 h1 pre ctx) _ _ ?_|fail
  all_goals first | (exfalso; omega) | skip
  exact hQ _ _ (by omega) (by assumption)
 ·have h1 : l.length = 1 := by have : (l.length : Int) = 1 := har
                               omega
  obtain ⟨e0, rfl⟩ := zBK h1
  obtain ⟨d0, _, rfl, h0, rfl⟩ := hes1
  have hraw : Tm.raw (.mk 9 nm ot m ty re [e0]) g n = (match e0.type ((g ++ [⟨nm, vm ty re, n⟩]) ++ [⟨ot, ty, n⟩]) n with | some b => if uP b re then some (vm ty re) else none | none => none) := by simp only [Tm.raw, wu]; rfl
  rw [hraw] at hQ
  repeat' first|with_reducible intro _|simp only[Y1,Y2,Y3,Y4]|(with_reducible first|refine X1 ?_ ?_|refine X2 ?_ ?_|refine X3 ?_ ?_|refine X4 ?_ ?_|refine X5 ?_ ?_|refine X6 ?_ ?_|refine X7 ?_ ?_|refine X8 ?_ ?_|refine X9 ?_ ?_)|refine⟨_,_,_,rfl,?_⟩|refine⟨_,rfl,?_⟩|((with_reducible refine And.intro ?_ ?_);·first|omega|trivial|(show _=_;rfl)|((with_reducible refine And.intro ?_ ?_)<;>first|omega|trivial|(show _=_;rfl)))|refine (zON ih hh h0 pre ctx) _ _ ?_|fail
  all_goals first | (exfalso; omega) | skip
  exact hQ _ _ (by omega) (by assumption)
 all_goals
  have h1 : l.length = 1 := by
   have hk : k = 10 ∨ k = 11 ∨ k = 12 ∨ k = 13 := by omega
   have : (l.length : Int) = 1 := by rw [har]; rcases hk with rfl | rfl | rfl | rfl <;> rfl
   omega
  obtain ⟨e0, rfl⟩ := zBK h1
  obtain ⟨d0, _, rfl, h0, rfl⟩ := hes1
  have hk : k = 10 ∨ k = 11 ∨ k = 12 ∨ k = 13 := by omega
  have hraw : Tm.raw (.mk k nm ot m ty re [e0]) g n = (match e0.type (if k = 12 then uX g n else g) (zu k n) with | some t => yg k t | none => none) := by
   simp only [Tm.raw, wu]
   rw [if_neg (by omega), if_neg (by omega), if_neg (by omega), if_neg (by omega), if_neg (by omega), if_neg (by omega), if_pos hk]
  rw [hraw] at hQ
  repeat' first|with_reducible intro _|simp only[Y1,Y2,Y3,Y4]|(with_reducible first|refine X1 ?_ ?_|refine X2 ?_ ?_|refine X3 ?_ ?_|refine X4 ?_ ?_|refine X5 ?_ ?_|refine X6 ?_ ?_|refine X7 ?_ ?_|refine X8 ?_ ?_|refine X9 ?_ ?_)|refine⟨_,_,_,rfl,?_⟩|refine⟨_,rfl,?_⟩|((with_reducible refine And.intro ?_ ?_);·first|omega|trivial|(show _=_;rfl)|((with_reducible refine And.intro ?_ ?_)<;>first|omega|trivial|(show _=_;rfl)))|refine (zOW hk ih h0 pre ctx) _ _ ?_|fail
  all_goals first | (exfalso; omega) | skip
  exact hQ _ _ (by omega) (by assumption)

theorem tw : ∀ {l : List Tm} {i : Nat} {g : List Tg} {n : Int} {t : Ty}, wu l i g n = some t → t.valid = true
 | [], i, g, n, t, h => by simp [wu] at h
 | e :: es, 0, g, n, t, h => by simp only [wu] at h; exact Tm.type_valid h
 | e :: es, i + 1, g, n, t, h => by simp only [wu] at h; exact tw h
theorem zGJ {l : List Ty} {m : Nat} (h : ∀ t ∈ l, t.cnt ≤ m) (hm : 1 ≤ m) (i : Nat) : (l.getD i tZero).cnt ≤ m := by
 rw [List.getD_eq_getElem?_getD]
 cases hi : l[i]? with
 | none => simpa [tZero, Ty.cnt, zH] using hm
 | some t => exact h t (List.mem_of_getElem? hi)
theorem zNx (t : Ty) (i : Nat) : (t.as.getD i tZero).cnt ≤ t.cnt := by
 cases t with
 | mk k l => exact zGJ (l := l) (fun u hu => by have := xn (l := l) hu; simp only [Ty.cnt]; omega) (by simp only [Ty.cnt]; omega) i
theorem zO1 {g : List Tg} {m : Nat} (h : ∀ x ∈ g, x.ty.cnt ≤ m) (hm : 1 ≤ m) (i : Nat) : (g.getD i tg0).ty.cnt ≤ m := by
 rw [List.getD_eq_getElem?_getD]
 cases hi : g[i]? with
 | none => simpa [tg0, tZero, Ty.cnt, zH] using hm
 | some t => exact h t (List.mem_of_getElem? hi)
theorem zKx {k : Int} {s : ByteArray} {ts : List Ty} {t : Ty} (hv : ∀ t ∈ ts, t.cnt ≤ 64) (h : yV k s ts = some t) : t.cnt ≤ 64 := by
 simp only [yV] at h
 split at h
 ·simp only [zN5] at h
  split at h
  ·cases h; unfold zBZ; (repeat' split) <;> simp [tInt, tBool, Ty.cnt, zH]
  ·cases h
 ·split at h
  ·split at h
   ·cases h; exact zGJ hv (by omega) _
   ·cases h
  ·split at h
   ·cases h; exact Nat.le_trans (zNx _ _) (zGJ hv (by omega) _)
   ·cases h
theorem zJh {k : Int} {u t : Ty} (hv : u.cnt ≤ 30) (h : yg k u = some t) : t.cnt ≤ 64 := by
 have h1 : (zBn u).cnt ≤ 64 := by simp only [zBn, Ty.cnt, zH]; omega
 have h2 := zNx u 0
 simp only [yg] at h
 (repeat' split at h) <;> cases h <;> first | exact h1 | omega
theorem zMC {e : Tm} {g : List Tg} {n : Int} {t : Ty} (pre : Pre g e n) (h : e.raw g n = some t) : t.cnt ≤ 64 := by
 cases e with
 | mk k nm ot m ty re l =>
 have nd := za pre.ok
 simp only [Tm.raw] at h
 split at h
 ·simp only [rp] at h
  (repeat' split at h) <;> cases h
  exact zO1 pre.ty (by omega) _
 split at h
 ·cases h; simp [tInt, Ty.cnt, zH]
 split at h
 ·cases h; simp [tBool, Ty.cnt, zH]
 split at h
 ·rename_i h6
  have hv := Ty.valid_cnt (nd.vt (.inl h6))
  split at h
  ·rename_i b hb
   have := Ty.valid_cnt (tw hb)
   cases h; simp only [vm, Ty.cnt, zH]; omega
  ·cases h
 split at h
 ·split at h
  ·have := Ty.valid_cnt (tw h); omega
  ·cases h
 split at h
 ·rename_i h9
  have hv := Ty.valid_cnt (nd.vt (.inr h9))
  have hr := Ty.valid_cnt (nd.vr h9)
  split at h
  ·split at h
   ·cases h; simp only [vm, Ty.cnt, zH]; omega
   ·cases h
  ·cases h
 split at h
 ·split at h
  ·rename_i b hb
   exact zJh (Ty.valid_cnt (tw hb)) h
  ·cases h
 ·split at h
  ·rename_i ts hts
   exact zKx (fun u hu => Nat.le_trans (Ty.valid_cnt ((zFJ hts).2 u hu)) (by omega)) h
  ·cases h
theorem yo : tZero.Is (.ag [.lit (.int .i64 0), .sl none 2 [] 0]) := xu 0
theorem tI : ∀ (e : Tm), ∀ d, e.Is d → ∀ g es a c n, Pre g e n → Ctx g es → zPL 88 [.sv a 4 es c, .dg 9 d, .int .i64 n] (e.type g n) := by
 refine Tm.ind fun k nm ot m ty re l ih d hd g es a c n pre ctx N Q hQ => ?_
 have hs := zFz (a := a) (c := c) hd ih pre ctx
 rw [Tm.type_eq] at hQ
 refine zGs N a es c _ n Q fun _ _ => ?_
 cases h : Tm.raw (.mk k nm ot m ty re l) g n with
 | none =>
   rw [h] at hs hQ
   repeat' first|with_reducible intro _|simp only[Option.isSome_none,Y1,Y2,Y3,Y4]|(with_reducible first|refine X1 ?_ ?_|refine X2 ?_ ?_|refine X3 ?_ ?_|refine X4 ?_ ?_|refine X5 ?_ ?_|refine X6 ?_ ?_|refine X7 ?_ ?_|refine X8 ?_ ?_|refine X9 ?_ ?_)|refine⟨_,_,_,rfl,?_⟩|refine⟨_,rfl,?_⟩|((with_reducible refine And.intro ?_ ?_);·first|omega|trivial|(show _=_;rfl)|((with_reducible refine And.intro ?_ ?_)<;>first|omega|trivial|(show _=_;rfl)))|refine hs _ _ ?_|fail
   all_goals first | (exfalso; omega) | skip
   exact hQ _ _ (by omega) yo
 | some t =>
   have hc := zMC pre h
   rw [h] at hs hQ
   simp only [vld] at hQ
   cases hv : t.valid with
   | false =>
     rw [hv] at hQ
     repeat' first|with_reducible intro _|simp only[Option.isSome_some, hv,Y1,Y2,Y3,Y4]|(with_reducible first|refine X1 ?_ ?_|refine X2 ?_ ?_|refine X3 ?_ ?_|refine X4 ?_ ?_|refine X5 ?_ ?_|refine X6 ?_ ?_|refine X7 ?_ ?_|refine X8 ?_ ?_|refine X9 ?_ ?_)|refine⟨_,_,_,rfl,?_⟩|refine⟨_,rfl,?_⟩|((with_reducible refine And.intro ?_ ?_);·first|omega|trivial|(show _=_;rfl)|((with_reducible refine And.intro ?_ ?_)<;>first|omega|trivial|(show _=_;rfl)))|refine hs _ _ ?_|refine (y8 t _ (by rename_i h _ _ _ _; exact h t rfl) (by omega)) _ _ ?_|fail
     all_goals first | (exfalso; omega) | skip
     exact hQ _ _ (by omega) yo
   | true =>
     rw [hv] at hQ
     repeat' first|with_reducible intro _|simp only[Option.isSome_some, hv,Y1,Y2,Y3,Y4]|(with_reducible first|refine X1 ?_ ?_|refine X2 ?_ ?_|refine X3 ?_ ?_|refine X4 ?_ ?_|refine X5 ?_ ?_|refine X6 ?_ ?_|refine X7 ?_ ?_|refine X8 ?_ ?_|refine X9 ?_ ?_)|refine⟨_,_,_,rfl,?_⟩|refine⟨_,rfl,?_⟩|((with_reducible refine And.intro ?_ ?_);·first|omega|trivial|(show _=_;rfl)|((with_reducible refine And.intro ?_ ?_)<;>first|omega|trivial|(show _=_;rfl)))|refine hs _ _ ?_|refine (y8 t _ (by rename_i h _ _ _ _; exact h t rfl) (by omega)) _ _ ?_|fail
     all_goals first | (exfalso; omega) | skip
     rename_i hx _ _ _ _ _ _ _ _ _
     exact hQ _ _ (by omega) (hx t rfl)
/-- what TypeOf comes to -/
def zFE (g : List Tg) (e : Tm) (n : Int) : Option Ty := if zGf g ∧ zJC e n then e.type g n else none
theorem zIv : ∀ {g : List Tg}, zHP g = true → ∀ x ∈ g, x.ty.valid = true
 | y :: ys, h, x, hx => by
   simp only [zHP, Tg.ok, Bool.and_eq_true] at h
   rcases List.mem_cons.1 hx with rfl | hx
   ·exact h.1.2.1
   ·exact zIv h.2 x hx
theorem zPo {g : List Tg} {e : Tm} {n : Int} (h1 : zGf g = true) (h2 : zJC e n = true) (hc : e.cnt ≤ 1048576000 / 2) : Pre g e n := by
 simp only [zGf, Bool.and_eq_true, decide_eq_true_eq] at h1
 simp only [zJC, Bool.and_eq_true] at h2
 exact ⟨h2.1, h2.2, by omega, fun x hx => Nat.le_trans (Ty.valid_cnt (zIv h1.1 x hx)) (by omega)⟩
end Go.Proofs.YtfkmegifjiiclaaGreat
