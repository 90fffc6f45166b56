/- The walker: what a function's code comes to, as a formula on ghost values. -/
import Derived.Test.YtfkmegifjiiclaaGreatJg
import Derived.Test.YtfkmegifjiiclaaGreatChecked
set_option linter.unusedVariables false
set_option linter.unusedSimpArgs false
namespace Go.Proofs.YtfkmegifjiiclaaGreat
open Go

variable {av : Nat → Prop} {P : Program} {w0 w w' : World} {e0 e : Env} {pS pS' pB pB' : List Nat} {a : Act} {st st' : St}

def base (f : FuncId) : Frame := { (default : Frame) with fn := f, kind := .normal }
/-- from these items on the call ends so -/
def zMu (P : Program) (f : FuncId) (k : List Item) (R : Ending → World → Prop) (a : Act) (w : World) : Prop :=
 ∀ cs, ∃ e w' fr, R e w' ∧ Comes P (lone ((base f).at a k) cs w) (lone fr cs w') e ∧ fr.fn = f ∧ fr.leaving P w' e

theorem xU {f : FuncId} {k k' : List Item} {R : Ending → World → Prop} {a' : Act} (hs : ∀ cs, step P (lone ((base f).at a k) cs w) = .next (lone ((base f).at a' k') cs w')) (h : zMu P f k' R a' w') : zMu P f k R a w :=
 fun cs => let ⟨e, w2, fr, h1, h2, h3⟩ := h cs; ⟨e, w2, fr, h1, .of_steps (.one (hs cs)) h2, h3⟩

theorem zHo {f : FuncId} {c : Code} {k : List Item} {R : Ending → World → Prop} (h : c.wp P (fun ex a' w' => ex = .normal ∧ zMu P f k R a' w') a w) : zMu P f (.code c :: k) R a w := fun cs => by
 obtain ⟨ex, a', w', ⟨rfl, hq⟩, harr⟩ := h (base f) k cs
 obtain ⟨e, w2, fr, h1, h2, h3⟩ := hq cs
 exact ⟨e, w2, fr, h1, .of_steps harr h2, h3⟩

theorem zFX {f : FuncId} {fn : Func} {k : List Item} {R : Ending → World → Prop} (hk : k = [] ∨ ∃ k', k = .code .ret :: k') (hf : P.funcs[f]? = some fn) (hd : a.defers = []) {v : Value} (hr : (results fn a.tmps).run P w = .ok v w) (hR : R (.returned v) w) : zMu P f k R a w := fun cs => by
 rcases hk with rfl | ⟨k', rfl⟩
 ·exact ⟨.returned v, w, _, hR, .one step_end, rfl, rfl, hd, rfl, fn, hf, hr⟩
 ·exact ⟨.returned v, w, _, hR, .one step_ret, rfl, rfl, hd, rfl, fn, hf, hr⟩

theorem zAk {f : FuncId} {fn : Func} {c : Code} {args : Array Value} {R : Ending → World → Prop} (hf : P.funcs[f]? = some fn) (hb : fn.body = some c)
  (h : zMu P f [.code c] R { tmps := args ++ Array.replicate (fn.ntmps - args.size) undef, defers := [] } w) : Calls P f args w R := by
 intro cs
 have henter : Frame.enter P f args .normal = (base f).at { tmps := args ++ Array.replicate (fn.ntmps - args.size) undef, defers := [] } [.code c] := by
  simp [Frame.enter, Frame.at, hf, hb, base]
 rw [henter]
 exact h cs

/-! return -/

def vk (st : St) : (l : List Sh) → QT l → List Nat → List PV → Prop
 | [], Q, _, ps => match ps with
   | [] => ∀ N, st.N ≤ N → Q N
   | _ => False
 | .int k :: l, Q, us, ps => match ps with
   | .int k' n :: ps => match decide (k = k') with
     | true => vk st l (Q n) us ps
     | false => False
   | _ => False
 | .bool :: l, Q, us, ps => match ps with
   | .bool v :: ps => vk st l (Q v) us ps
   | _ => False
 | .str :: l, Q, us, ps => match ps with
   | .str v :: ps => vk st l (Q v) us ps
   | _ => False
 | .sl z :: l, Q, us, ps => match ps with
   | .sv a z' es c :: ps => match decide (z = z') with
     | true => vk st l (Q a es c) us ps
     | false => False
   | _ => False
 | .ag n :: l, Q, us, ps => match ps with
   | p :: ps => match zIL p with
     | .dg n' x => match decide (n = n') with
       | true => vk st l (Q x) us ps
       | false => False
     | _ => False
   | _ => False
 | .row t z :: l, Q, us, ps => match ps with
   | .sb k z' lo n c :: ps => match st.bx[k]? with
     | some (.arr t' z'' es c') => match decide (t' = t) && decide (z' = z) && decide (z'' = z) && decide (lo = 0) && !us.contains k with
       | true => (n = es.length ∧ c = c') ∧ vk st l (Q es c) (k :: us) ps
       | false => False
     | _ => False
   | .sv none _ [] 0 :: ps => vk st l (Q [] 0) us ps
   | _ => False
 | .pk :: l, Q, us, ps => match zO7 l with
   | true => vk st l Q us ps
   | false => False
 | .dc :: l, Q, us, ps => match ps with
   | p :: ps => match r9 p with
     | some x => vk st l (Q x) us ps
     | none => False
   | _ => False
 | .bk j :: l, Q, us, ps => match ps with
   | p :: ps => match r9 p with
     | some x => vk st l (Q x) us ps
     | none => False
   | _ => False

/-- the rows that go along with the results -/
abbrev Sel := List (Option Nat × Bx)
def Sel.rows (s : Sel) : List Bx := s.map (·.2)
def Sel.env (e : Env) (s : Sel) : Env := s.map fun x => x.1.bind e.at
structure SelOk (st : St) (us : List Nat) (s : Sel) : Prop where
 at_ : ∀ x ∈ s, (x.1 = none ∧ ∃ t z, x.2 = .arr t z [] 0) ∨ ∃ k t z es c, x.1 = some k ∧ st.bx[k]? = some x.2 ∧ x.2 = .arr t z es c
 nd : (s.filterMap (·.1)).Nodup
 un : ∀ k ∈ s.filterMap (·.1), k ∉ us

/-- a result, and the ghost value that is told of it -/
def zKn : PV → Bool
 | .int .. => true
 | .bool .. => true
 | .str .. => true
 | .sv .. => true
 | .dg .. => true
 | _ => false
def zQs : PV → Bool
 | .sb .. => true
 | .dc .. => true
 | _ => false
def zQw (w : World) (e : Env) (live : Nat → Prop) (E : Env) (p q : PV) : Prop := p.val e = q.val1 E ∧ (p.Ok w live → q.Ok w live) ∧ p ≠ .any ∧ (zKn p = true → q = p ∨ zQs q = true)

theorem zx (h : Rel av w0 e0 [] [] a w e st) : ∀ (l : List Sh) (Q : QT l) (us : List Nat) (ps : List PV) (b : Nat), vk st l Q us ps → (∀ p ∈ ps, p.Ok w (zX av [] e st.bx) ∨ zKn p = true) →
  ∃ qs s, QT.app l Q b qs (Sel.rows s) w.heap.size ∧ SelOk st us s ∧ qs.length = ps.length ∧
    ∀ (E : Env), E.length = b → ∀ (i : Nat) (p q : PV), ps[i]? = some p → qs[i]? = some q → zQw w e (zX av [] e st.bx) (E ++ s.env e) p q
 | [], Q, us, ps, b, hs, _ => by
   cases ps with
   | nil => exact ⟨[], [], hs _ h.hN, ⟨by simp, by simp, by simp⟩, rfl, by simp⟩
   | cons => exact hs.elim
 | .int k :: l, Q, us, ps, b, hs, hok => by
   cases ps with
   | nil => exact hs.elim
   | cons p ps =>
     cases p <;> simp only [vk] at hs <;> try exact hs.elim
     rename_i k' n
     cases hk : decide (k = k') with
     | true =>
       rw [hk] at hs
       obtain ⟨qs, s, h1, h2, h3, h4⟩ := zx h l _ us ps b hs (fun p hp => hok p (by simp [hp]))
       refine ⟨.int k n :: qs, s, ⟨rfl, h1⟩, h2, by simp [h3], fun E hE i p q hp hq => ?_⟩
       cases i with
       | zero => simp at hp hq hk; subst hp; subst hq; subst hk; exact ⟨rfl, id, by simp, fun _ => .inl rfl⟩
       | succ i => exact h4 E hE i p q (by simpa using hp) (by simpa using hq)
     | false => rw [hk] at hs; exact hs.elim
 | .bool :: l, Q, us, ps, b, hs, hok => by
   cases ps with
   | nil => exact hs.elim
   | cons p ps =>
     cases p <;> simp only [vk] at hs <;> try exact hs.elim
     rename_i n
     obtain ⟨qs, s, h1, h2, h3, h4⟩ := zx h l _ us ps b hs (fun p hp => hok p (by simp [hp]))
     refine ⟨.bool n :: qs, s, h1, h2, by simp [h3], fun E hE i p q hp hq => ?_⟩
     cases i with
     | zero => simp at hp hq; subst hp; subst hq; exact ⟨rfl, id, by simp, fun _ => .inl rfl⟩
     | succ i => exact h4 E hE i p q (by simpa using hp) (by simpa using hq)
 | .str :: l, Q, us, ps, b, hs, hok => by
   cases ps with
   | nil => exact hs.elim
   | cons p ps =>
     cases p <;> simp only [vk] at hs <;> try exact hs.elim
     rename_i n
     obtain ⟨qs, s, h1, h2, h3, h4⟩ := zx h l _ us ps b hs (fun p hp => hok p (by simp [hp]))
     refine ⟨.str n :: qs, s, h1, h2, by simp [h3], fun E hE i p q hp hq => ?_⟩
     cases i with
     | zero => simp at hp hq; subst hp; subst hq; exact ⟨rfl, id, by simp, fun _ => .inl rfl⟩
     | succ i => exact h4 E hE i p q (by simpa using hp) (by simpa using hq)
 | .sl z :: l, Q, us, ps, b, hs, hok => by
   cases ps with
   | nil => exact hs.elim
   | cons p ps =>
     cases p <;> simp only [vk] at hs <;> try exact hs.elim
     rename_i ad z' es c
     cases hz : decide (z = z') with
     | true =>
       rw [hz] at hs
       simp at hz; subst hz
       obtain ⟨qs, s, h1, h2, h3, h4⟩ := zx h l _ us ps b hs (fun p hp => hok p (by simp [hp]))
       refine ⟨.sv ad z es c :: qs, s, ⟨rfl, h1⟩, h2, by simp [h3], fun E hE i p q hp hq => ?_⟩
       cases i with
       | zero => simp at hp hq; subst hp; subst hq; exact ⟨rfl, id, by simp, fun _ => .inl rfl⟩
       | succ i => exact h4 E hE i p q (by simpa using hp) (by simpa using hq)
     | false => rw [hz] at hs; exact hs.elim
 | .ag n :: l, Q, us, ps, b, hs, hok => by
   cases ps with
   | nil => exact hs.elim
   | cons p ps =>
     simp only [vk] at hs
     split at hs
     rotate_left
     ·exact hs.elim
     rename_i n' x hnp
     split at hs
     rotate_left
     ·exact hs.elim
     rename_i hz
     simp at hz; subst hz
     obtain ⟨qs, s, h1, h2, h3, h4⟩ := zx h l _ us ps b hs (fun p hp => hok p (by simp [hp]))
     refine ⟨.dg n x :: qs, s, ⟨rfl, h1⟩, h2, by simp [h3], fun E hE i r q hp hq => ?_⟩
     cases i with
     | zero =>
       simp at hp hq; subst hp; subst hq
       rcases hok p (by simp) with hokp | hdx
       rotate_left
       ·cases p <;> simp [zKn] at hdx <;> simp [zIL] at hnp
        rw [hnp.1, hnp.2]
        exact ⟨rfl, id, by simp, fun _ => .inl rfl⟩
       have hte := zAu (e := e) hokp
       rw [hnp] at hte
       rcases hte with h5 | ⟨h8, h6, h7, _⟩
       ·cases h5
       ·refine ⟨h6, h7, h8, fun hx => .inl ?_⟩
        cases p <;> simp [zKn] at hx <;> simp [zIL] at hnp
        rw [hnp.1, hnp.2]
     | succ i => exact h4 E hE i r q (by simpa using hp) (by simpa using hq)
 | .row t z :: l, Q, us, ps, b, hs, hok => by
   cases ps with
   | nil => exact hs.elim
   | cons p ps =>
     simp only [vk] at hs
     split at hs
     ·rename_i k z' lo n c ps' hps
      cases hps
      split at hs
      ·rename_i t' z'' es c' hk
       split at hs
       rotate_left
       ·exact hs.elim
       rename_i hc
       simp only [Bool.and_eq_true, decide_eq_true_eq, Bool.not_eq_true'] at hc
       obtain ⟨⟨⟨⟨ht1, hz1⟩, hz2⟩, hlo⟩, hun⟩ := hc
       subst ht1; subst hz1; subst hz2; subst hlo
       obtain ⟨⟨rfl, rfl⟩, hs⟩ := hs
       obtain ⟨qs, s, h1, h2, h3, h4⟩ := zx h l _ (k :: us) ps (b + 1) hs (fun p hp => hok p (by simp [hp]))
       refine ⟨.sb b z'' 0 es.length c :: qs, (some k, .arr t' z'' es c) :: s, ⟨⟨rfl, rfl, rfl, rfl, rfl, rfl, rfl⟩, h1⟩, ⟨fun x hx => ?_, ?_, fun j hj => ?_⟩, by simp [h3], fun E hE i r q hp hq => ?_⟩
       ·rcases List.mem_cons.1 hx with rfl | hx
        ·exact .inr ⟨k, t', z'', es, c, rfl, hk, rfl⟩
        ·exact h2.at_ x hx
       ·simp only [List.filterMap_cons]
        exact List.nodup_cons.2 ⟨fun hc => h2.un k hc (by simp), h2.nd⟩
       ·simp only [List.filterMap_cons] at hj
        rcases List.mem_cons.1 hj with rfl | hj
        ·intro hc; simp [hc] at hun
        ·exact fun hc => h2.un j hj (by simp [hc])
       ·have hat : Env.at (E ++ Sel.env e ((some k, Bx.arr t' z'' es c) :: s)) b = e.at k := by
         simp [Sel.env, Env.at, List.getD_eq_getElem?_getD, ← hE]
        cases i with
        | zero =>
          simp at hp hq; subst hp; subst hq
          refine ⟨?_, id, by simp, fun _ => .inr rfl⟩
          simp only [PV.val, PV.val1, PV.cv, hat]
        | succ i =>
          have := h4 (E ++ [e.at k]) (by simp [hE]) i r q (by simpa using hp) (by simpa using hq)
          simpa [Sel.env] using this
      ·exact hs.elim
     ·rename_i zz ps' hps
      cases hps
      obtain ⟨qs, s, h1, h2, h3, h4⟩ := zx h l _ us ps (b + 1) hs (fun p hp => hok p (by simp [hp]))
      refine ⟨.sb b z 0 0 0 :: qs, (none, .arr t z [] 0) :: s, ⟨⟨rfl, rfl, rfl, rfl, rfl, rfl, rfl⟩, h1⟩, ⟨fun x hx => ?_, ?_, fun j hj => ?_⟩, by simp [h3], fun E hE i r q hp hq => ?_⟩
      ·rcases List.mem_cons.1 hx with rfl | hx
       ·exact .inl ⟨rfl, t, z, rfl⟩
       ·exact h2.at_ x hx
      ·simpa using h2.nd
      ·exact h2.un j (by simpa using hj)
      ·have hat : Env.at (E ++ Sel.env e (((none : Option Nat), Bx.arr t z [] 0) :: s)) b = none := by
        simp [Sel.env, Env.at, List.getD_eq_getElem?_getD, ← hE]
       cases i with
       | zero =>
         simp at hp hq; subst hp; subst hq
         refine ⟨?_, fun _ => trivial, by simp, fun _ => .inr rfl⟩
         simp [PV.val, PV.val1, PV.cv, hat]
       | succ i =>
         have := h4 (E ++ [none]) (by simp [hE]) i r q (by simpa using hp) (by simpa using hq)
         simpa [Sel.env] using this
     ·exact hs.elim
 | .pk :: l, Q, us, ps, b, hs, hok => by
   simp only [vk] at hs
   split at hs
   ·rename_i hk
    obtain ⟨qs, s, h1, h2, h3, h4⟩ := zx h l Q us ps b hs hok
    exact ⟨qs, s, ⟨hk, h1⟩, h2, h3, h4⟩
   ·exact hs.elim
 | .dc :: l, Q, us, ps, b, hs, hok => by
   cases ps with
   | nil => exact hs.elim
   | cons p ps =>
     simp only [vk] at hs
     split at hs
     rotate_left
     ·exact hs.elim
     rename_i x hx
     obtain ⟨qs, s, h1, h2, h3, h4⟩ := zx h l _ us ps b hs (fun p hp => hok p (by simp [hp]))
     refine ⟨.dc x :: qs, s, h1, h2, by simp [h3], fun E hE i r q hp hq => ?_⟩
     cases i with
     | zero =>
       simp at hp hq; subst hp; subst hq
       have hv : p.val e = p.cv e := by cases p <;> first | rfl | (simp [r9] at hx)
       have hcv : x.cv = p.cv e := by
        rcases hok p (by simp) with hokp | hdx
        ·exact (wh (e := e) hx hokp).2.2.1
        ·cases p <;> simp [zKn] at hdx <;> simp [r9] at hx <;> subst hx <;> rfl
       refine ⟨by rw [hv, ← hcv]; rfl, fun hp => ?_, fun hc => by subst hc; simp [r9] at hx, fun _ => .inr rfl⟩
       obtain ⟨g1, g2, _⟩ := wh (e := e) hx hp
       exact ⟨g1, g2⟩
     | succ i => exact h4 E hE i r q (by simpa using hp) (by simpa using hq)
 | .bk j :: l, Q, us, ps, b, hs, hok => by
   cases ps with
   | nil => exact hs.elim
   | cons p ps =>
     simp only [vk] at hs
     split at hs
     rotate_left
     ·exact hs.elim
     rename_i x hx
     obtain ⟨qs, s, h1, h2, h3, h4⟩ := zx h l _ us ps b hs (fun p hp => hok p (by simp [hp]))
     refine ⟨.dc x :: qs, s, h1, h2, by simp [h3], fun E hE i r q hp hq => ?_⟩
     cases i with
     | zero =>
       simp at hp hq; subst hp; subst hq
       have hv : p.val e = p.cv e := by cases p <;> first | rfl | (simp [r9] at hx)
       have hcv : x.cv = p.cv e := by
        rcases hok p (by simp) with hokp | hdx
        ·exact (wh (e := e) hx hokp).2.2.1
        ·cases p <;> simp [zKn] at hdx <;> simp [r9] at hx <;> subst hx <;> rfl
       refine ⟨by rw [hv, ← hcv]; rfl, fun hp => ?_, fun hc => by subst hc; simp [r9] at hx, fun _ => .inr rfl⟩
       obtain ⟨g1, g2, _⟩ := wh (e := e) hx hp
       exact ⟨g1, g2⟩
     | succ i => exact h4 E hE i r q (by simpa using hp) (by simpa using hq)

theorem zMG (h : Rel av w0 [] [] [] a w e st) {s : Sel} (hs : SelOk st [] s) : Mem av [] w (s.env e) s.rows ∧ (∀ b, zX av [] (s.env e) s.rows b → zX av [] e st.bx b) ∧ ∀ (k b : Nat), (s.env e).at k = some b → w0.heap.size ≤ b := by
 have hget : ∀ (j : Nat) (x : Option Nat × Bx), s[j]? = some x → (s.env e).at j = x.1.bind e.at := fun j x hj => by simp [Sel.env, Env.at, List.getD_eq_getElem?_getD, hj]
 have hrow : ∀ (j : Nat) (B : Bx), s.rows[j]? = some B → ∃ x, s[j]? = some x ∧ x.2 = B := fun j B hj => by
  simp only [Sel.rows, List.getElem?_map] at hj
  cases hx : s[j]? with
  | none => simp [hx] at hj
  | some x => simp [hx] at hj; exact ⟨x, rfl, hj⟩
 have hat : ∀ (j b : Nat), (s.env e).at j = some b → ∃ x k, s[j]? = some x ∧ x.1 = some k ∧ Lives [] e st.bx k b := fun j b hj => by
  cases hx : s[j]? with
  | none => simp [Sel.env, Env.at, List.getD_eq_getElem?_getD, hx] at hj
  | some x =>
    rw [hget j x hx] at hj
    rcases hs.at_ x (List.mem_of_getElem? hx) with ⟨h1, _⟩ | ⟨k, t, z, es, c, h1, h2, h3⟩
    ·rw [h1] at hj; cases hj
    ·rw [h1] at hj
     exact ⟨x, k, rfl, h1, by simp, hj, x.2, h2, by rw [h3]; simp⟩
 have hlive : ∀ b, zX av [] (s.env e) s.rows b → zX av [] e st.bx b := fun b hb => hb.imp id fun ⟨j, hj⟩ => by
  obtain ⟨_, k, _, _, h3⟩ := hat j b hj.2.1
  exact ⟨k, h3⟩
 refine ⟨{ el := by simp [Sel.env, Sel.rows], br := fun j B hj _ => ?_, bo := fun j B hj _ => ?_, bf := fun j B hj _ i hi => ?_, inj := fun i j b hi hj => ?_ }, hlive, fun j b hj => ?_⟩
 ·obtain ⟨x, hx, rfl⟩ := hrow j B hj
  rw [hget j x hx]
  rcases hs.at_ x (List.mem_of_getElem? hx) with ⟨h1, t, z, h2⟩ | ⟨k, t, z, es, c, h1, h2, h3⟩
  ·rw [h1, h2]; exact .inl ⟨rfl, rfl, rfl⟩
  ·rw [h1]
   refine (h.br k _ h2 (by simp)).congr (fun _ _ => rfl) fun i hi => ?_
   rw [h3] at hi; simp [Bx.refs] at hi
 ·obtain ⟨x, hx, rfl⟩ := hrow j B hj
  rcases hs.at_ x (List.mem_of_getElem? hx) with ⟨h1, t, z, h2⟩ | ⟨k, t, z, es, c, h1, h2, h3⟩
  ·rw [h2]; intro y hy; simp at hy
  ·exact (h.bo k _ h2 (by simp)).mono (fun _ _ _ => rfl) (Nat.le_refl _) fun b _ => hlive b
 ·obtain ⟨x, hx, rfl⟩ := hrow j B hj
  rcases hs.at_ x (List.mem_of_getElem? hx) with ⟨h1, t, z, h2⟩ | ⟨k, t, z, es, c, h1, h2, h3⟩
  ·rw [h2] at hi; simp [Bx.refs] at hi
  ·rw [h3] at hi; simp [Bx.refs] at hi
 ·obtain ⟨x, k, h1, h2, h3⟩ := hat i b hi.2.1
  obtain ⟨y, l, g1, g2, g3⟩ := hat j b hj.2.1
  have hkl := h.inj k l b h3 g3
  subst hkl
  -- no box goes along twice
  have key : ∀ (s : Sel) (i j : Nat) (x y : Option Nat × Bx), (s.filterMap (·.1)).Nodup → s[i]? = some x → s[j]? = some y → x.1 = some k → y.1 = some k → i = j := by
   intro s
   induction s with
   | nil => intro i j x y _ hx; simp at hx
   | cons u s ih =>
     intro i j x y hn hx hy hxk hyk
     have hn' : (s.filterMap (·.1)).Nodup := by
      cases hu : u.1 with
      | none => simpa [hu] using hn
      | some m => simp only [List.filterMap_cons, hu] at hn; exact (List.nodup_cons.1 hn).2
     have hnm : u.1 = some k → k ∉ s.filterMap (·.1) := fun hu => by
      simp only [List.filterMap_cons, hu] at hn
      exact (List.nodup_cons.1 hn).1
     cases i with
     | zero =>
       simp at hx; subst hx
       cases j with
       | zero => rfl
       | succ j => simp at hy; exact absurd (List.mem_filterMap.2 ⟨y, List.mem_of_getElem? hy, hyk⟩) (hnm hxk)
     | succ i =>
       simp at hx
       cases j with
       | zero => simp at hy; subst hy; exact absurd (List.mem_filterMap.2 ⟨x, List.mem_of_getElem? hx, hxk⟩) (hnm hyk)
       | succ j => simp at hy; rw [ih i j x y hn' hx hy hxk hyk]
  exact key s i j x y hs.nd h1 g1 h2 g2
 ·obtain ⟨_, k, _, _, h3⟩ := hat j b hj
  rcases h.own k b h3 with h4 | h4
  ·exact h4
  ·simp at h4

def zN2 : ResultVar → Nat
 | .tmp t => t
 | .cell a _ => a
/-- the results, read -/
def zPG (P : Program) (st : St) : List ResultVar → (List PV → Prop) → Prop
 | [], K => K []
 | .tmp t :: l, K => zPG P st l fun ps => K (st.sl.getD t .any :: ps)
 | .cell a t :: l, K => zAN P (opd st.sl) (fun k => st.bx[k]?) (.load t (.tmp a)) t fun p => zPG P st l fun ps => K (p :: ps)
def zOY : Sh → Bool
 | .row .. => true
 | .dc => true
 | .bk _ => true
 | _ => false
/-- the slots of the results that are told as snapshots -/
def zP9 : List Sh → List Nat → List Nat
 | .pk :: _, _ => []
 | s :: l, t :: ts => match zOY s with
   | true => zP9 l ts
   | false => t :: zP9 l ts
 | _, _ => []
/-- the cells of the one result -/
def zLo (pk : Bool) (ps : List PV) : List PV := match pk with
 | true => match ps with
   | [.pg cs] => cs
   | _ => [.any]
 | false => ps
def zQH (P : Program) (f : FuncId) (rs : List Sh) (Q : QT rs) (N0 : Option Nat) (st : St) : Prop :=
 match P.funcs[f]? with
 | some fn => pZ N0 #[] [] (zP9 rs (fn.results.toList.map zN2)) (fn.results.toList.map zN2) st fun st => zPG P st fn.results.toList fun ps => vk st rs Q [] (zLo (zL0 rs) (yi P fn.resultTypes.toList ps))
 | none => False

def zI5 (tmps : Array Value) (r : ResultVar) : Sem Value := match r with
 | .tmp t => pure (tmps.getD t undef)
 | .cell a t => do loadVar t (← asAddr (tmps.getD a undef))
theorem zNn (tmps : Array Value) : (fun (r : ResultVar) => match r with
 | .tmp t => (pure (tmps.getD t undef) : Sem Value)
 | .cell a t => do loadVar t (← asAddr (tmps.getD a undef))) = zI5 tmps := by funext r; cases r <;> rfl

theorem rW (h : Rel av w0 e0 [] [] a w e st) : ∀ (l : List ResultVar) (K : List PV → Prop), zPG P st l K → ∃ vs ps, K ps ∧ (l.mapM (zI5 a.tmps)).run P w = .ok vs w ∧ vs.length = l.length ∧ ps.length = l.length ∧
  ∀ (i : Nat) (v : Value) (p : PV), vs[i]? = some v → ps[i]? = some p → ValOk av w e [] st.bx v p
 | [], K, hK => ⟨[], [], hK, by simp, rfl, rfl, by simp⟩
 | .tmp t :: l, K, hK => by
   obtain ⟨vs, ps, h1, h2, h3, h4, h5⟩ := rW h l _ hK
   have hv : ValOk av w e [] st.bx (a.eval (.tmp t)) (opd st.sl (.tmp t)) := (w9 h (x := .tmp t) (by simp)).valOk
   refine ⟨a.tmps.getD t undef :: vs, st.sl.getD t .any :: ps, h1, ?_, by simp [h3], by simp [h4], fun i v p hv' hp => ?_⟩
   ·simp [zI5, h2]
   ·cases i with
    | zero => simp only [List.getElem?_cons_zero, Option.some.injEq] at hv' hp; subst hv'; subst hp; exact hv
    | succ i => exact h5 i v p (by simpa using hv') (by simpa using hp)
 | .cell c t :: l, K, hK => by
   simp only [zPG] at hK
   have ho : ∀ x ∈ (Op.load t (.tmp c)).operands, OpdOk av a w e [] st.bx x (opd st.sl x) := fun x hx => w9 h (by simp)
   obtain ⟨v0, p0, g1, g2, g3⟩ := zAW (o := ⟨none, .load t (.tmp c), t, "", #[], none⟩) h.toMem ho (fun k B hk => ⟨hk, by simp⟩) hK
   obtain ⟨vs, ps, h1, h2, h3, h4, h5⟩ := rW h l _ g2
   have hrun : (zI5 a.tmps (.cell c t)).run P w = .ok v0 w := by
    simp only [execOp] at g1
    have he : a.eval (.tmp c) = a.tmps.getD c undef := rfl
    rw [he] at g1
    simp only [zI5]
    cases hv : a.tmps.getD c undef with
    | pointer p =>
      cases p with
      | none => rw [hv] at g1; simp [Instr.loadAt, Instr.sureAddr] at g1
      | some ad =>
        rw [hv] at g1
        simp [Instr.loadAt, Instr.sureAddr, asAddr] at g1 ⊢
        generalize (loadVar t ad).run P w = r at g1 ⊢
        cases r with
        | ok x w1 => simp at g1 ⊢; exact g1
        | halt x w1 => simp at g1
    | _ => rw [hv] at g1; simp [Instr.loadAt, Instr.sureAddr] at g1
   refine ⟨v0 :: vs, p0 :: ps, h1, ?_, by simp [h3], by simp [h4], fun i v p hv' hp => ?_⟩
   ·rw [List.mapM_cons]
    simp only [Sem.run_bind, hrun, Result.andThen_ok, h2, Sem.run_pure]
   ·cases i with
    | zero => simp only [List.getElem?_cons_zero, Option.some.injEq] at hv' hp; subst hv'; subst hp; exact g3
    | succ i => exact h5 i v p (by simpa using hv') (by simpa using hp)

def zP1 (vs : List Value) : Value := match vs with
 | [v] => v
 | vs => .tuple vs.toArray
theorem qa {fn : Func} {vs : List Value} {tmps : Array Value} (h : (fn.results.toList.mapM (zI5 tmps)).run P w = .ok vs w) :
  (results fn tmps).run P w = .ok (zP1 vs) w := by
 unfold results
 have he : ∀ F : ResultVar → Sem Value, F = zI5 tmps → ((do
   let vs ← fn.results.mapM F
   pure (if h : vs.size = 1 then vs[0] else .tuple vs) : Sem Value)).run P w = .ok (zP1 vs) w := fun F hF => by
  subst hF
  rw [Array.mapM_eq_mapM_toList]
  simp [h]
  rcases vs with _ | ⟨t, _ | ⟨u, ts⟩⟩ <;> simp [zP1]
 exact he _ (zNn tmps)

theorem zJn {e : Env} {p : PV} (h : p.isC) : p.val e = p.cv e := by
 cases p <;> first | rfl | exact h.elim | skip
 rename_i x
 cases x <;> first | rfl | (simp [PV.isC, D.isCell] at h)
theorem zLJ {e : Env} {p : PV} (h : p.isC) : p.val1 e = p.cv e := by
 have := zJn (e := e) h
 cases p <;> first | exact this | exact h.elim
theorem zKq (h : Rel av w0 [] [] [] a w e st) {f : FuncId} {rs : List Sh} {Q : QT rs} {k : List Item} (hk : k = [] ∨ ∃ k', k = .code .ret :: k') {N0 : Option Nat} (hN0 : NOk N0 w0) (hs : zQH P f rs Q N0 st) : zMu P f k (Fin rs Q av w0) a w := by
 unfold zQH at hs
 split at hs
 rotate_left
 ·exact hs.elim
 rename_i fn hf
 obtain ⟨st1, T, h1, _, _, h2⟩ := uY h hN0 (by simp) hs
 obtain ⟨vs, ps, h1, hrun, hvl, hpl, hvp⟩ := rW h2 _ _ h1
 -- the results, as told
 have hres : ∀ (i : Nat) (p : PV), (yi P fn.resultTypes.toList ps)[i]? = some p → ∃ v, vs[i]? = some v ∧ ValOk av w e [] st1.bx v p := fun i p hp => by
  obtain ⟨q, hq, hqp⟩ := qZ _ _ _ _ hp
  have hlt : i < vs.length := by rw [hvl, ← hpl]; exact (List.getElem?_eq_some_iff.1 hq).1
  have hv := hvp i _ q (List.getElem?_eq_getElem hlt) hq
  refine ⟨_, List.getElem?_eq_getElem hlt, ?_⟩
  rcases hqp with rfl | ⟨ty, rfl⟩
  ·exact hv
  ·exact hv.retag ty
 cases hpk : zL0 rs with
 | true =>
   rw [hpk] at h1
   have hpg : ∃ cs, yi P fn.resultTypes.toList ps = [.pg cs] := by
    by_cases hc : ∃ cs, yi P fn.resultTypes.toList ps = [.pg cs]
    ·exact hc
    ·exfalso
     have hp : zLo true (yi P fn.resultTypes.toList ps) = [.any] := by
      simp only [zLo]
      split
      ·rename_i cs hcs; exact absurd ⟨cs, hcs⟩ hc
      ·rfl
     rw [hp] at h1
     cases rs with
     | nil => simp [zL0] at hpk
     | cons s l =>
       cases s <;> simp [zL0] at hpk
       simp only [vk] at h1
       split at h1
       ·rename_i hk
        cases l with
        | nil => exact h1.elim
        | cons s l =>
          cases s <;> simp only [vk] at h1 <;> first | exact h1.elim | (simp [zO7] at hk)
       ·exact h1.elim
   obtain ⟨cs, hcs⟩ := hpg
   rw [hcs] at h1 hres
   simp only [zLo] at h1
   obtain ⟨v, hv0, hvo⟩ := hres 0 (.pg cs) rfl
   have hvl1 : vs = [v] := by
    have h5 : vs.length = 1 := by have h6 := congrArg List.length hcs; rw [wc] at h6; rw [hvl, ← hpl, h6]; rfl
    rcases vs with _ | ⟨u, _ | _⟩ <;> simp at h5 hv0
    subst hv0; rfl
   have hok := hvo.2.1
   simp only [PV.Ok] at hok
   obtain ⟨hokL, hisC⟩ := hok
   rw [PV.OkL_iff] at hokL
   obtain ⟨qs, s, g1, g2, g3, g4⟩ := zx h2 rs Q [] _ 0 h1 (fun p hp => .inl (hokL p hp))
   obtain ⟨m1, m2, m3⟩ := zMG h2 g2
   have hqC := QT.app_pk hpk g1
   refine zFX hk hf h2.nd (qa hrun) ⟨qs, s.rows, s.env e, g1, ?_, m1, fun q hq => ?_, m3, h2.size, fun b hb => h2.old b hb (by simp), fun b c t z hb hc => h2.fz b c t z (.inl hb) hc, h2.ku⟩
   ·rw [hvl1, hpk]
    simp only [zP1, zNj]
    rw [hvo.1.resolve_left (by simp)]
    simp only [PV.val, PV.val1, PV.cvs_eq]
    congr 2
    apply List.ext_getElem?
    intro i
    rw [List.getElem?_map, List.getElem?_map]
    cases hq : qs[i]? with
    | none => rw [show cs[i]? = none from List.getElem?_eq_none (by rw [← g3]; exact List.getElem?_eq_none_iff.1 hq)]; rfl
    | some q =>
      have hlt : i < cs.length := by rw [← g3]; exact (List.getElem?_eq_some_iff.1 hq).1
      have hp := List.getElem?_eq_getElem hlt
      rw [hp]
      simp only [Option.map_some, Option.some.injEq]
      have h5 := g4 [] rfl i _ q hp hq
      rw [← zJn (hisC _ (List.mem_of_getElem? hp)), h5.1, zLJ (hqC q (List.mem_of_getElem? hq))]
      rfl
   ·obtain ⟨i, hi⟩ := List.mem_iff_getElem?.1 hq
    have hlt : i < cs.length := by rw [← g3]; exact (List.getElem?_eq_some_iff.1 hi).1
    have hp := List.getElem?_eq_getElem hlt
    exact PV.Ok.mono (fun _ _ _ => rfl) (Nat.le_refl _) (fun b _ => m2 b) q ((g4 [] rfl i _ q hp hi).2.1 (hokL _ (List.mem_of_getElem? hp)))
 | false =>
 rw [hpk] at h1
 simp only [zLo] at h1
 obtain ⟨qs, s, g1, g2, g3, g4⟩ := zx h2 rs Q [] _ 0 h1 (fun p hp => by
  obtain ⟨i, hi⟩ := List.mem_iff_getElem?.1 hp
  obtain ⟨t, _, hv⟩ := hres i p hi
  exact .inl hv.2.1)
 obtain ⟨m1, m2, m3⟩ := zMG h2 g2
 have hlen : qs.length = vs.length := by rw [g3, wc, hpl, hvl]
 refine zFX hk hf h2.nd (qa hrun) ⟨qs, s.rows, s.env e, g1, ?_, m1, fun q hq => ?_, m3, h2.size, fun b hb => h2.old b hb (by simp), fun b c t z hb hc => h2.fz b c t z (.inl hb) hc, h2.ku⟩
 ·-- the values
  have hv : vs = qs.map (PV.val1 (s.env e)) := by
   apply List.ext_getElem?
   intro i
   rw [List.getElem?_map]
   cases hq : qs[i]? with
   | none =>
     have : vs[i]? = none := List.getElem?_eq_none (by rw [← hlen]; exact List.getElem?_eq_none_iff.1 hq)
     rw [this]; rfl
   | some q =>
     have hlt : i < (yi P fn.resultTypes.toList ps).length := by rw [← g3]; exact (List.getElem?_eq_some_iff.1 hq).1
     have hp := List.getElem?_eq_getElem hlt
     obtain ⟨v, hv, hvo⟩ := hres i _ hp
     rw [hv]
     simp only [Option.map_some, Option.some.injEq]
     have h5 := g4 [] rfl i _ q hp hq
     rw [hvo.1.resolve_left h5.2.2.1, h5.1]
     rfl
  rw [hv, hpk]
  simp only [zNj]
  unfold zMS
  rcases qs with _ | ⟨q, _ | ⟨r, qs⟩⟩ <;> rfl
 ·obtain ⟨i, hi⟩ := List.mem_iff_getElem?.1 hq
  have hlt : i < (yi P fn.resultTypes.toList ps).length := by rw [← g3]; exact (List.getElem?_eq_some_iff.1 hi).1
  have hp := List.getElem?_eq_getElem hlt
  obtain ⟨t, ht, hvo⟩ := hres i _ hp
  exact PV.Ok.mono (fun _ _ _ => rfl) (Nat.le_refl _) (fun b _ => m2 b) q ((g4 [] rfl i _ q hp hi).2.1 hvo.2.1)

end Go.Proofs.YtfkmegifjiiclaaGreat

/- How a call ends that may write the caller's boxes. -/
set_option linter.unusedVariables false
set_option linter.unusedSimpArgs false
namespace Go.Proofs.YtfkmegifjiiclaaGreat
open Go

variable {av : Nat → Prop} {P : Program} {w0 w w' : World} {e0 e : Env} {pS pS' pB pB' : List Nat} {a : Act} {st st' : St}

end Go.Proofs.YtfkmegifjiiclaaGreat

/- The walker over a function's code. -/
set_option linter.unusedVariables false
set_option linter.unusedSimpArgs false
namespace Go.Proofs.YtfkmegifjiiclaaGreat
open Go

variable {av : Nat → Prop} {P : Program} {w0 w w' : World} {e0 e : Env} {pS pS' pB pB' : List Nat} {a : Act} {st st' : St}

structure Hint where
 cuts : List Cut := []
 joins : List Cut := []
 ords : List (Nat × List Ent) := []
/-! short words for hints and states -/
def eh (i : Nat) : Ent := { i := i, hard := true }
def en (i : Nat) : Ent := { i := i }
def ec (i : Nat) (cl : List Nat) : Ent := { i := i, hard := true, cl := cl }
def em (i : Nat) (pl : Option Nat) (keep : List Nat) (same : Option Nat := none) : Ent := { i := i, hard := true, mh := some { place := pl, keep := keep, same := same } }
def zPO (i : Nat) : List Ent → Ent
 | [] => eh i
 | e :: l => match Nat.beq e.i i with
   | true => e
   | false => zPO i l
def zQY (l : List Ent) (n : Nat) : Nat → List Ent
 | 0 => []
 | k + 1 => zPO (n - (k + 1)) l :: zQY l n k
/-- hard ones in order, but for these -/
def hs (n : Nat) (l : List Ent) : List Ent := zQY l n n
def hc (id : Nat) (keep : List Nat) (nils : List (Nat × TypeId × Nat) := []) (bnils : List (Nat × Nat × TypeId × Nat) := []) : Cut := { id := id, keep := keep, nils := nils, bnils := bnils }
def an : Nat → List PV → List PV
 | 0, l => l
 | n + 1, l => .any :: an n l

/-- the region in which a piece of code begins -/
def zAa : Code → Option Nat
 | .region id _ _ => some id
 | .seq a b => match zAa a with
   | some i => some i
   | none => zAa b
 | .block _ c => zAa c
 | .loop c => zAa c
 | _ => none
def zJW : List Cut → Nat → Option Cut
 | [], _ => none
 | c :: l, id => match Nat.beq c.id id with
   | true => some c
   | false => zJW l id
def zMj : List (Nat × List Ent) → Nat → Option (List Ent)
 | [], _ => none
 | (i, o) :: l, id => match Nat.beq i id with
   | true => some o
   | false => zMj l id
def zMw (n : Nat) : List Ent := (List.range n).map fun i => { i := i, hard := true }
def zNL (H : Hint) (id : Nat) (ops : Array Oper) : List Ent := match zMj H.ords id with
 | some o => o
 | none => zMw ops.size
def zPh (first : Bool) (H : Hint) (id : Nat) : Option Cut := match first with
 | true => none
 | false => zJW H.joins id
def zP0 (N0 : Option Nat) (H : Hint) (c : Code) (st : St) (K : St → Prop) : Prop := match zAa c with
 | some id => match zJW H.cuts id with
   | some cut => zQO N0 cut st fun st => zCU st K
   | none => False
 | none => False
def zQB (st : St) (c : Operand) (v : Bool) : St := match c with
 | .tmp t => st.put (some t) (.bool v)
 | _ => st
def zPe (st : St) (c : Operand) (A B : St → Prop) : Prop := match opd st.sl c with
 | .bool v => Br v (A (zQB st c true)) (B (zQB st c false))
 | _ => False

/-- an ordinary call; one that writes what it is handed: the older blocks that it may write, the block of the row that it is handed, else the slot and type of the struct; one that may write the boxes that it is handed -/
inductive Mode where
 | ord
 | mk (T : List Nat) (ob : Option Nat) (xr : Nat × TypeId) (Q : Int → D → Nat → Prop)
def Mode.env0 : Mode → Env
 | .ord => []
 | .mk T _ _ _ => T.map some
def Mode.n0 : Mode → Nat → Option Nat
 | .ord, N => some N
 | .mk .., _ => none
def zN7 (w : World) (ob : Option Nat) (z : Nat) (x : D) : Prop := match ob with
 | some b => ∃ t es c e, x = .ag es ∧ Bx.Rel w e (some b) (.arr t z es c)
 | none => ∃ n, IsAg n x
/-- how a call ends that writes what it is handed -/
structure DoneM (T : List Nat) (ob : Option Nat) (z : Nat) (Q : Int → D → Nat → Prop) (w0 w : World) (k : Int) (x : D) : Prop where
 q : Q k x w.heap.size
 hd : Holds w x
 bx : zN7 w ob z x
 size : w0.heap.size ≤ w.heap.size
 old : ∀ b, b < w0.heap.size → b ∉ T → w.heap[b]? = w0.heap[b]?
 fz : ∀ (b : Nat) (c : Array Value) (t : TypeId) (z : Nat × Nat), (w0.heap.size ≤ b ∨ b ∈ T) → w.heap[b]? = some (.cells c t z) → z = (0, 0)
 ku : KU w0 w
def zQt (T : List Nat) (ob : Option Nat) (z : Nat) (Q : Int → D → Nat → Prop) (w0 : World) : Ending → World → Prop
 | .returned v, w => ∃ k x, v = .int .i64 k ∧ DoneM T ob z Q w0 w k x
 | _, _ => False
def Mode.fin (M : Mode) (P : Program) (f : FuncId) (rs : List Sh) (Q : QT rs) (av : Nat → Prop) (w0 : World) : Ending → World → Prop := match M with
 | .ord => Fin rs Q av w0
 | .mk T ob xr QM => zQt T ob xr.1 QM w0
def zNK (P : Program) (st : St) (ob : Option Nat) (xr : Nat × TypeId) (K : D → Prop) : Prop := match ob with
 | some b => match st.pin with
   | some (some b' :: _, _) => match st.bx with
     | .arr _ z es _ :: _ => match decide (z = xr.1) with
       | true => b' = b ∧ K (.ag es)
       | false => False
     | _ => False
   | _ => False
 | none => zAN P (opd st.sl) (fun k => st.bx[k]?) (.load xr.2 (.tmp xr.1)) xr.2 fun p => match zIL p with
   | .dg _ x => K x
   | _ => False
def zQe (P : Program) (f : FuncId) (ob : Option Nat) (xr : Nat × TypeId) (Q : Int → D → Nat → Prop) (st : St) : Prop := match P.funcs[f]? with
 | some fn => zPG P st fn.results.toList fun ps => match ps with
   | [.int k n] => match k with
     | .i64 => zNK P st ob xr fun x => ∀ N, st.N ≤ N → Q n x N
     | _ => False
   | _ => False
 | none => False
def zPy (P : Program) (f : FuncId) (rs : List Sh) (Q : QT rs) (N0 : Nat) (M : Mode) (st : St) : Prop := match M with
 | .ord => zQH P f rs Q (some N0) st
 | .mk _ ob xr QM => zQe P f ob xr QM st

/-- at these items, in this state, the function's contract will be met -/
structure AT (P : Program) (f : FuncId) (rs : List Sh) (Q : QT rs) (N0 : Nat) (M : Mode) (k : List Item) (st : St) : Prop where
 h : ∀ (av : Nat → Prop) (w0 : World) (a : Act) (w : World) (e : Env), w0.heap.size = N0 → Rel av w0 M.env0 [] [] a w e st → zMu P f k (M.fin P f rs Q av w0) a w

def W (P : Program) (sh : FuncId → List Sh) (f : FuncId) (rs : List Sh) (Q : QT rs) (N0 : Nat) (M : Mode) (H : Hint) : Nat → Bool → List Item → St → Prop
 | 0, _, _, _ => False
 | n + 1, first, items, st => match items with
   | [] => zPy P f rs Q N0 M st
   | .inBlock _ :: k => W P sh f rs Q N0 M H n first k st
   | .inLoop c :: k => zP0 (M.n0 N0) H c st fun st => AT P f rs Q N0 M (.code c :: .inLoop c :: k) st
   | .code c :: k => match c with
     | .skip => W P sh f rs Q N0 M H n first k st
     | .label _ => W P sh f rs Q N0 M H n first k st
     | .ret => zPy P f rs Q N0 M st
     | .seq x y => W P sh f rs Q N0 M H n first (.code x :: .code y :: k) st
     | .cond c x y => zPe st c (fun st => W P sh f rs Q N0 M H n false (.code x :: k) st) (fun st => W P sh f rs Q N0 M H n false (.code y :: k) st)
     | .block id c => W P sh f rs Q N0 M H n first (.code c :: .inBlock id :: k) st
     | .loop c => zP0 (M.n0 N0) H c st fun st => AT P f rs Q N0 M (.code c :: .inLoop c :: k) st
     | .exit id => match exitTo id k with
       | some k' => W P sh f rs Q N0 M H n false k' st
       | none => False
     | .region id ops draw => match zPh first H id with
       | some cut => zQO (M.n0 N0) cut st fun st => zCU st fun st => AT P f rs Q N0 M (.code (.region id ops draw) :: k) st
       | none => match draw with
         | true => match chk ops (zNL H id ops) with
           | true => zJ4 P sh (M.n0 N0) ops (zNL H id ops) [] st fun st => zCU st fun st => W P sh f rs Q N0 M H n false k st
           | false => False
         | false => match zJA ops.size (zNL H id ops) with
           | true => zJ4 P sh (M.n0 N0) ops (zNL H id ops) [] st fun st => zCU st fun st => W P sh f rs Q N0 M H n false k st
           | false => False
     | _ => False
   | _ => False

theorem nok (M : Mode) (w0 : World) : NOk (M.n0 w0.heap.size) w0 := fun n hn => by
 cases M with
 | ord => cases hn; rfl
 | mk => cases hn

theorem zEu (h : Rel av w0 e0 [] [] a w e st) {N0 : Option Nat} (hN0 : NOk N0 w0) {H : Hint} {c : Code} {K : St → Prop} (hs : zP0 N0 H c st K) : ∃ e' st', K st' ∧ Rel av w0 e0 [] [] a w e' st' := by
 unfold zP0 at hs
 split at hs
 ·split at hs
  ·obtain ⟨e', st', h1, h2⟩ := zEm h hN0 hs
   rw [tL] at h1
   exact ⟨e', st', h1, h2⟩
  ·exact hs.elim
 ·exact hs.elim

theorem zIf {c : Operand} {v : Bool} (h : opd st.sl c = .bool v) : zQB st c v = st := by
 cases c with
 | tmp t =>
   simp only [opd, List.getD_eq_getElem?_getD] at h
   cases ht : st.sl[t]? with
   | none => rw [ht] at h; cases h
   | some p => rw [ht] at h; simp at h; subst h; exact zGl ht
 | _ => rfl

theorem zI2 (h : Rel av w0 e0 [] [] a w e st) {ob : Option Nat} {xr : Nat × TypeId} {K : D → Prop} (hs : zNK P st ob xr K) : ∃ x, K x ∧ Holds w x ∧ zN7 w ob xr.1 x := by
 cases ob with
 | some b =>
   simp only [zNK] at hs
   split at hs
   ·rename_i b' L T hp
    split at hs
    ·rename_i t z es c bs hb0
     have hb : st.bx[0]? = some (.arr t z es c) := by rw [hb0]; rfl
     cases hz : decide (z = xr.1) with
     | false => rw [hz] at hs; exact hs.elim
     | true =>
       rw [hz] at hs
       simp only [decide_eq_true_eq] at hz
       obtain ⟨rfl, hs⟩ := hs
       have h1 := h.pin 0 b' (by simp [St.pins, hp])
       refine ⟨_, hs, .ag fun y hy => (h.bo 0 _ hb (by simp) y hy).1, t, es, c, e, rfl, ?_⟩
       rw [← h1.1, ← hz]
       exact h.br 0 _ hb (by simp)
    ·exact hs.elim
   ·exact hs.elim
 | none =>
   simp only [zNK] at hs
   have ho : ∀ x ∈ (Op.load xr.2 (.tmp xr.1)).operands, OpdOk av a w e [] st.bx x (opd st.sl x) := fun x hx => w9 h (by simp)
   obtain ⟨v0, p0, g1, g2, g3⟩ := zAW (o := ⟨none, .load xr.2 (.tmp xr.1), xr.2, "", #[], none⟩) h.toMem ho (fun k B hk => ⟨hk, by simp⟩) hs
   split at g2
   ·rename_i n x hn
    have hte := zAu (e := e) g3.2.1
    rw [hn] at hte
    rcases hte with h5 | ⟨_, _, h7, _⟩
    ·cases h5
    ·obtain ⟨k1, k2⟩ := h7 g3.2.1
     exact ⟨x, g2, k1.1, n, k2⟩
   ·exact g2.elim

theorem zEt {rs : List Sh} {Q : QT rs} {M : Mode} {f : FuncId} {k : List Item} (h : Rel av w0 M.env0 [] [] a w e st) (hk : k = [] ∨ ∃ k', k = .code .ret :: k') (hs : zPy P f rs Q w0.heap.size M st) : zMu P f k (M.fin P f rs Q av w0) a w := by
 cases M with
 | ord => exact zKq h hk (nok .ord w0) hs
 | mk T ob xr QM =>
   simp only [zPy, zQe] at hs
   split at hs
   rotate_left
   ·exact hs.elim
   rename_i fn hf
   obtain ⟨vs, ps, h1, hrun, hvl, hpl, hvp⟩ := rW h _ _ hs
   split at h1
   rotate_left
   ·exact h1.elim
   rename_i kk n
   split at h1
   rotate_left
   ·exact h1.elim
   obtain ⟨x, h2, h3, h4⟩ := zI2 h h1
   have hvs : ∃ v, vs = [v] := by
    have : vs.length = 1 := by rw [hvl, ← hpl]; rfl
    rcases vs with _ | ⟨v, _ | _⟩ <;> simp at this; exact ⟨v, rfl⟩
   obtain ⟨v, rfl⟩ := hvs
   have hv := (hvp 0 v _ rfl rfl).1.resolve_left (by simp)
   refine zFX hk hf h.nd (qa hrun) ⟨n, x, hv, h2 _ h.hN, h3, h4, h.size, fun b hb hn => h.old b hb (by simp [Mode.env0]; exact hn), fun b c t z hb hc => h.fz b c t z (hb.imp id fun hb => by simp [Mode.env0]; exact hb) hc, h.ku⟩

theorem zGd {sh : FuncId → List Sh} {f : FuncId} {rs : List Sh} {Q : QT rs} {N0 : Nat} {M : Mode} {H : Hint} (hm : P.follows .mixedOrders = true) :
  ∀ (n : Nat) (first : Bool) (items : List Item) (st : St), W P sh f rs Q N0 M H n first items st → AT P f rs Q N0 M items st := by
 intro n
 induction n with
 | zero => intro first items st h; exact h.elim
 | succ n ih =>
   intro first items st hs
   refine ⟨fun av w0 a w e hN h => ?_⟩
   subst hN
   cases items with
   | nil => exact zEt h (.inl rfl) hs
   | cons it k =>
     cases it with
     | inBlock id => exact xU (fun cs => step_inBlock) ((ih _ _ _ hs).h av w0 a w e rfl h)
     | inLoop c =>
       obtain ⟨e', st', h1, h2⟩ := zEu h (nok M w0) hs
       exact xU (fun cs => step_inLoop) (h1.h av w0 a w e' rfl h2)
     | code c =>
       cases c with
       | skip => exact xU (fun cs => step_skip) ((ih _ _ _ hs).h av w0 a w e rfl h)
       | label l => exact xU (fun cs => step_label) ((ih _ _ _ hs).h av w0 a w e rfl h)
       | ret => exact zEt h (.inr ⟨_, rfl⟩) hs
       | seq x y => exact xU (fun cs => step_seq) ((ih _ _ _ hs).h av w0 a w e rfl h)
       | block id c => exact xU (fun cs => step_block) ((ih _ _ _ hs).h av w0 a w e rfl h)
       | loop c =>
         obtain ⟨e', st', h1, h2⟩ := zEu h (nok M w0) hs
         exact xU (fun cs => step_loop) (h1.h av w0 a w e' rfl h2)
       | cond c x y =>
         simp only [W, zPe] at hs
         split at hs
         ·rename_i v hv
          have hev : a.eval c = .bool v := by
           have := (w9 h (x := c) (by simp)).h.resolve_left (by rw [hv]; simp)
           rw [this, hv]; rfl
          rcases hs.spec with ⟨rfl, hs⟩ | ⟨rfl, hs⟩
          ·rw [zIf hv] at hs
           exact xU (fun cs => step_cond hev) ((ih _ _ _ hs).h av w0 a w e rfl h)
          ·rw [zIf hv] at hs
           exact xU (fun cs => step_cond hev) ((ih _ _ _ hs).h av w0 a w e rfl h)
         ·exact hs.elim
       | exit id =>
         simp only [W] at hs
         split at hs
         ·rename_i k' hk
          exact xU (fun cs => step_exit hk) ((ih _ _ _ hs).h av w0 a w e rfl h)
         ·exact hs.elim
       | region id ops draw =>
         simp only [W] at hs
         split at hs
         ·obtain ⟨e', st', h1, h2⟩ := zEm h (nok M w0) hs
          rw [tL] at h1
          exact h1.h av w0 a w e' rfl h2
         ·have key : ∀ a w e st, zCU st (fun st => W P sh f rs Q w0.heap.size M H n false k st) → Rel av w0 M.env0 [] [] a w e st → Exit.normal = .normal ∧ zMu P f k (M.fin P f rs Q av w0) a w := fun a w e st hf hr => by
           rw [tL] at hf
           exact ⟨rfl, (ih _ _ _ hf).h av w0 a w e rfl hr⟩
          split at hs
          ·split at hs
           ·rename_i hck
            exact zHo (zLL (nok M w0) hm hck h hs key)
           ·exact hs.elim
          ·split at hs
           ·rename_i hck
            exact zHo (zLG (nok M w0) hck h hs key)
           ·exact hs.elim
       | _ => exact hs.elim
     | _ => exact hs.elim

/-! where a cut lies in the code -/

def uA (id : Nat) : Code → List Item → Option (List Item)
 | .seq x y, k => match uA id x (.code y :: k) with
   | some r => some r
   | none => uA id y k
 | .cond _ x y, k => match uA id x k with
   | some r => some r
   | none => uA id y k
 | .block i c, k => uA id c (.inBlock i :: k)
 | .loop c, k => match zAa c with
   | some j => match Nat.beq j id with
     | true => some (.code c :: .inLoop c :: k)
     | false => uA id c (.inLoop c :: k)
   | none => uA id c (.inLoop c :: k)
 | _, _ => none
def zPc (P : Program) (f : FuncId) : Code := match P.funcs[f]? with
 | some fn => match fn.body with
   | some c => c
   | none => .skip
 | none => .skip
def zF (P : Program) (f : FuncId) (id : Nat) : List Item := match uA id (zPc P f) [] with
 | some k => k
 | none => []
/-! a call from its beginning -/

def zDL (n : Nat) (args : List PV) : List PV := args ++ List.replicate (n - args.length) .any
def zKT (P : Program) (sh : FuncId → List Sh) (f : FuncId) (rs : List Sh) (Q : QT rs) (N : Nat) (H : Hint) (fuel : Nat) (args : List PV) : Prop := match P.funcs[f]? with
 | some fn => match fn.body with
   | some c => zOL N args (zCU { sl := zDL fn.ntmps args, bx := [], N := N } fun st => W P sh f rs Q N .ord H fuel true [.code c] st)
   | none => False
 | none => False

theorem zO5 {sh : FuncId → List Sh} {f : FuncId} {rs : List Sh} {Q : QT rs} {N : Nat} {H : Hint} {fuel : Nat} {args : List PV} (hm : P.follows .mixedOrders = true) (hc : yr P f = true)
  (h : zKT P sh f rs Q N H fuel args) : ACalls P f rs args N Q := by
 refine ⟨hc, fun av w0 hN hav harg => ?_⟩
 subst hN
 unfold zKT at h
 split at h
 rotate_left
 ·exact h.elim
 rename_i fn hf
 split at h
 rotate_left
 ·exact h.elim
 rename_i c hb
 have h := u4 (fun p hp => by
  have hok := (harg p hp).1
  cases p <;> simp only [PV.Ok] at hok ⊢
  ·exact hok.1.lt
  ·exact hok.1.1.lt) h
 rw [tL] at h
 have hw := zGd hm _ _ _ _ h
 refine zAk hf hb (hw.h av w0 _ w0 [] rfl ?_)
 have hget : ∀ (i : Nat) (p : PV), (zDL fn.ntmps args)[i]? = some p → p = .any ∨ (p ∈ args ∧ args[i]? = some p) := fun i p hp => by
  unfold zDL at hp
  by_cases hi : i < args.length
  ·rw [List.getElem?_append_left hi] at hp
   exact .inr ⟨List.mem_of_getElem? hp, hp⟩
  ·rw [List.getElem?_append_right (by omega)] at hp
   exact .inl (List.eq_of_mem_replicate (List.mem_of_getElem? hp))
 have hnl : ∀ k b, ¬ Lives [] [] ([] : List Bx) k b := fun k b ⟨_, _, B, h3, _⟩ => by simp at h3
 have hlive : ∀ b, zX av [] [] ([] : List Bx) b → av b := fun b hb => hb.elim id fun ⟨k, hk⟩ => absurd hk (hnl k b)
 exact {
  el := rfl
  br := fun k B hk _ => by simp at hk
  bo := fun k B hk _ => by simp at hk
  bf := fun k B hk _ => by simp at hk
  inj := fun k j b hk _ => absurd hk (hnl k b)
  ku := .rfl
  size := Nat.le_refl _
  old := fun _ _ _ => rfl
  fz := fun b c t z hb hc => by
   rcases hb with hb | hb
   ·have := (Array.getElem?_eq_some_iff.1 hc).1; omega
   ·exact absurd hb (by simp [Mode.env0])
  nd := rfl
  sz := by simp [zDL]
  hN := Nat.le_refl _
  hs := fun i p hp _ => by
   rcases hget i p hp with h1 | ⟨h1, h2⟩
   ·exact .inl h1
   ·right
    have hlt := (List.getElem?_eq_some_iff.1 h2).1
    have : i < args.toArray.size := by simpa using hlt
    simp [Array.getElem?_append, hlt]
    rw [(List.getElem?_eq_some_iff.1 h2).2]
  so := fun i p hp _ => by
   rcases hget i p hp with h1 | ⟨h1, h2⟩
   ·subst h1; trivial
   ·exact PV.Ok.mono (fun _ _ _ => rfl) (Nat.le_refl _) (fun b _ => hlive b) p (harg p h1).1
  sr := fun i p hp _ k hk => by
   rcases hget i p hp with h1 | ⟨h1, h2⟩
   ·subst h1; simp [PV.refs] at hk
   ·rw [(harg p h1).2] at hk; simp at hk
  own := fun k b hk => absurd hk (hnl k b)
  avl := hav
  avn := fun k b hk => absurd hk (hnl k b)
  pin := fun k b hb => by simp [St.pins] at hb
  pit := fun b T hb => by cases hb }

end Go.Proofs.YtfkmegifjiiclaaGreat

/- Small things that the printed texts name. -/
set_option linter.unusedVariables false
set_option linter.unusedSimpArgs false
namespace Go.Proofs.YtfkmegifjiiclaaGreat
open Go

def bytes (l : List Nat) : ByteArray := ⟨(l.map UInt8.ofNat).toArray⟩
def zOJ (f : Nat) : List (Nat × List Sh) → List Sh
 | [] => []
 | (g, s) :: l => match Nat.beq g f with
   | true => s
   | false => zOJ f l

theorem zPq {P : Program} {sh : FuncId → List Sh} {f : FuncId} {rs : List Sh} {Q : QT rs} {N : Nat} {H : Hint} {fuel : Nat} {args : List PV} {F : Prop} (hm : P.follows .mixedOrders = true) (hc : yr P f = true)
 (he : F = zKT P sh f rs Q N H fuel args) (h : F) : ACalls P f rs args N Q := zO5 hm hc (he ▸ h)
theorem zQS {P : Program} {sh : FuncId → List Sh} {f : FuncId} {rs : List Sh} {Q : QT rs} {N0 : Nat} {M : Mode} {H : Hint} {fuel : Nat} {items : List Item} {st : St} {F : Prop} (hm : P.follows .mixedOrders = true)
 (he : F = zCU st fun st => W P sh f rs Q N0 M H fuel true items st) (h : F) : AT P f rs Q N0 M items st := zGd hm fuel true items st (by rw [tL] at he; exact he ▸ h)

/-! calls that write what they are handed -/

def noQ : QT [] := fun _ => False
def zEo (P : Program) (sh : FuncId → List Sh) (f : FuncId) (N : Nat) (M : Mode) (H : Hint) (fuel : Nat) (args : List PV) (bx : List Bx) (pin : Option (List (Option Nat) × List Nat)) : Prop := match P.funcs[f]? with
 | some fn => match fn.body with
   | some c => zCU { sl := zDL fn.ntmps args, bx := bx, N := N, pin := pin } fun st => W P sh f [] noQ N M H fuel true [.code c] st
   | none => False
 | none => False

theorem zIU {av : Nat → Prop} {args : List PV} {bx : List Bx} {e e0 : Env} {pin : Option (List (Option Nat) × List Nat)} {nt : Nat} {w0 : World} (hm : Mem av [] w0 e bx) (harg : ∀ p ∈ args, p.Ok w0 (zX av [] e bx) ∧ ∀ k ∈ p.refs, k < bx.length)
  (havl : ∀ b, av b → b < w0.heap.size) (havn : ∀ k b, Lives [] e bx k b → ¬ av b)
  (hown : ∀ k b, Lives [] e bx k b → some b ∈ e0 ∧ k < (St.pins ⟨zDL nt args, bx, w0.heap.size, pin⟩).length) (hfz : ∀ (b : Nat) (c : Array Value) (t : TypeId) (z : Nat × Nat), some b ∈ e0 → w0.heap[b]? = some (.cells c t z) → z = (0, 0))
  (hpin : ∀ k b, (St.pins ⟨zDL nt args, bx, w0.heap.size, pin⟩)[k]? = some (some b) → e.at k = some b) (hpit : ∀ L T, pin = some (L, T) → ∀ x ∈ T, some x ∈ e0) :
  Rel av w0 e0 [] [] { tmps := (args.map (PV.val e)).toArray ++ Array.replicate (nt - (args.map (PV.val e)).toArray.size) undef, defers := [] } w0 e { sl := zDL nt args, bx := bx, N := w0.heap.size, pin := pin } := by
 have hget : ∀ (i : Nat) (p : PV), (zDL nt args)[i]? = some p → p = .any ∨ (p ∈ args ∧ args[i]? = some p) := fun i p hp => by
  unfold zDL at hp
  by_cases hi : i < args.length
  ·rw [List.getElem?_append_left hi] at hp
   exact .inr ⟨List.mem_of_getElem? hp, hp⟩
  ·rw [List.getElem?_append_right (by omega)] at hp
   exact .inl (List.eq_of_mem_replicate (List.mem_of_getElem? hp))
 exact {
  toMem := hm
  ku := .rfl
  size := Nat.le_refl _
  old := fun _ _ _ => rfl
  fz := fun b c t z hb hc => by
   rcases hb with hb | hb
   ·have := (Array.getElem?_eq_some_iff.1 hc).1; omega
   ·exact hfz b c t z hb hc
  nd := rfl
  sz := by simp [zDL]
  hN := Nat.le_refl _
  hs := fun i p hp _ => by
   rcases hget i p hp with h1 | ⟨h1, h2⟩
   ·exact .inl h1
   ·right
    have hlt := (List.getElem?_eq_some_iff.1 h2).1
    simp [Array.getElem?_append, hlt]
    rw [(List.getElem?_eq_some_iff.1 h2).2]
  so := fun i p hp _ => by
   rcases hget i p hp with h1 | ⟨h1, h2⟩
   ·subst h1; trivial
   ·exact (harg p h1).1
  sr := fun i p hp _ k hk => by
   rcases hget i p hp with h1 | ⟨h1, h2⟩
   ·subst h1; simp [PV.refs] at hk
   ·exact ⟨by simp, (harg p h1).2 k hk⟩
  own := fun k b hk => .inr (hown k b hk)
  avl := havl
  avn := havn
  pin := fun k b hb => ⟨hpin k b hb, by simp⟩
  pit := hpit }

/-- a slice that is not empty -/
theorem zMv {P : Program} {sh : FuncId → List Sh} {f : FuncId} {H : Hint} {fuel : Nat} {ad : Addr} {z c : Nat} {es : List D} {k : Int} {N : Nat} {R : D → Int → Nat → Prop} {QM : Int → D → Nat → Prop} (hm : P.follows .mixedOrders = true) (hc : yr P f = true)
  (htree : Tree (.sl (some ad) z es c)) (hne : es ≠ []) (hlen : es.length ≤ maxLen)
  (hx : ∀ t, zEo P sh f N (.mk (D.sl (some ad) z es c).foot (some ad.block) (z, 0) QM) H fuel [.sb 0 z 0 es.length c, .int .i64 k] [.arr t z es es.length] (some ([some ad.block], (D.sl (some ad) z es c).foot)))
  (hQ : ∀ k' x N', QM k' x N' → ∃ es', x = .ag es' ∧ es'.length = es.length ∧ zA es' = zA es ∧ R (.sl (some ad) z es' c) k' N') : MC P f (.sl (some ad) z es c) k N R := by
 refine ⟨hc, fun w0 hN hH hU => ?_⟩
 subst hN
 have hfoot : (D.sl (some ad) z es c).foot = ad.block :: zA es := by simp [D.foot, hne]
 have hnd := htree.nd
 rw [hfoot] at hnd
 obtain ⟨hnb, hnd⟩ := List.nodup_cons.1 hnd
 have hoff : ad.off = 0 := htree.fl.1 ad rfl
 cases hH with
 | sl h1 h2 h3 h4 h5 =>
 have h1 := h1 hne
 rcases h5 with h5 | ⟨cc, t, fz, h6, h7⟩
 ·exfalso
  have := zP h3
  rw [h5] at this
  have h0 : 0 < es.length := List.length_pos_iff.2 hne
  have := Nat.mul_pos h0 (sW z)
  simp at *; omega
 obtain ⟨cc', t', hU'⟩ := hU ad.block (by rw [hfoot]; simp)
 rw [h6] at hU'
 cases hU'
 have hx := hx t
 unfold zEo at hx
 split at hx
 rotate_left
 ·exact hx.elim
 rename_i fn hf
 split at hx
 rotate_left
 ·exact hx.elim
 rename_i code hb
 rw [tL] at hx
 have hAT := zGd hm _ _ _ _ hx
 have hlive : ∀ b, zX (fun _ => False) [] [some ad.block] [Bx.arr t z es es.length] b → b = ad.block := fun b hb => by
  rcases hb with hb | ⟨k, _, h8, _⟩
  ·exact hb.elim
  ·cases k with
   | zero => simp [Env.at] at h8; exact h8.symm
   | succ k => simp [Env.at] at h8
 have hflat := zP h3
 have hsize : es.length * ez z ≤ cc.size := by
  rw [← hflat]
  rcases Nat.eq_zero_or_pos (flat es).length with h0 | h0
  ·omega
  ·have := h7 ((flat es).length - 1) _ (List.getElem?_eq_getElem (by omega))
   have := (Array.getElem?_eq_some_iff.1 this).1
   omega
 have hval : #[(D.sl (some ad) z es c).val, .int .i64 k] = ([PV.sb 0 z 0 es.length c, .int .i64 k].map (PV.val [some ad.block])).toArray := by
  obtain ⟨bb, oo, sp⟩ := ad
  simp only at h1 hoff
  subst h1; subst hoff
  simp [PV.val, PV.val1, PV.cv, Env.at, D.val, D.cv]
 rw [hval]
 refine zAk hf hb ?_
 have hrel := zIU (w0 := w0) (args := [PV.sb 0 z 0 es.length c, .int .i64 k]) (bx := [.arr t z es es.length]) (e := [some ad.block]) (e0 := (D.sl (some ad) z es c).foot.map some)
  (pin := some ([some ad.block], (D.sl (some ad) z es c).foot)) (nt := fn.ntmps) { el := rfl, br := fun k B hk _ => ?_, bo := fun k B hk _ => ?_, bf := fun k B hk _ j hj => ?_, inj := fun i j b hi hj => ?_ } (fun p hp => ?_) (fun b hb => hb.elim) (fun k b hk => id) (fun k b hk => ?_) (fun b c' t' z' hb' hc' => ?_) (fun k b hb => ?_) (fun ob T hb x hx => ?_)
 ·have hend := hAT.h (fun _ => False) w0 _ w0 _ rfl hrel
  intro cs
  obtain ⟨en, w', fr, hfin, hrest⟩ := hend cs
  refine ⟨en, w', fr, ?_, hrest⟩
  cases en with
  | panicked => exact hfin.elim
  | outgrown => exact hfin.elim
  | returned v =>
    obtain ⟨k', x, rfl, hd⟩ := hfin
    obtain ⟨es', rfl, g1, g2, g3⟩ := hQ _ _ _ hd.q
    obtain ⟨t2, es2, c2, e2, g4, g5⟩ := hd.bx
    cases g4
    have hne' : es' ≠ [] := fun hc => by rw [hc] at g1; simp at g1; exact hne (List.eq_nil_of_length_eq_zero g1.symm)
    have hf' : (D.sl (some ad) z es' c).foot = ad.block :: zA es' := by simp [D.foot, hne']
    have hH' : ∀ y ∈ es', Holds w' y := by
     have := hd.hd
     cases this with
     | ag h => exact h
    rcases g5 with ⟨g5, _⟩ | ⟨b3, c3, k1, k2, k3, k4, k5, k6, k7⟩
    ·cases g5
    cases k1
    refine ⟨.sl (some ad) z es' c, k', rfl, ⟨hd.size, hd.old, hd.fz, .sl (fun _ => h1) (by omega) k6 hH' (.inr ⟨c3, t2, (0, 0), k2, fun i u hu => by rw [hoff, Nat.zero_add]; exact k7 i u hu⟩), by rw [hf', hfoot, g2], by simp [D.cells, D.cv, g1], .inl ⟨_, _, _, _, _, rfl, rfl⟩, hd.ku⟩, g3⟩
 ·cases k with
  | zero =>
    simp at hk; subst hk
    exact .inr ⟨ad.block, cc, rfl, h6, hsize, Nat.le_refl _, hlen, h3, fun i u hu => by have := h7 i u hu; rwa [hoff, Nat.zero_add] at this⟩
  | succ k => simp at hk
 ·cases k with
  | zero =>
    simp at hk; subst hk
    intro y hy
    refine ⟨h4 y hy, fun b hb hl => ?_⟩
    have := hlive b hl
    subst this
    exact hnb (zI.2 ⟨y, hy, hb⟩)
  | succ k => simp at hk
 ·cases k with
  | zero => simp at hk; subst hk; simp [Bx.refs] at hj
  | succ k => simp at hk
 ·have h8 : ∀ i, Lives [] [some ad.block] [Bx.arr t z es es.length] i b → i = 0 := fun i ⟨_, h9, _⟩ => by
   cases i with
   | zero => rfl
   | succ i => simp [Env.at] at h9
  rw [h8 i hi, h8 j hj]
 ·simp at hp
  rcases hp with rfl | rfl
  ·exact ⟨trivial, by simp [PV.refs]⟩
  ·exact ⟨trivial, by simp [PV.refs]⟩
 ·have := hlive b (.inr ⟨k, hk⟩)
  subst this
  refine ⟨by rw [hfoot]; simp, ?_⟩
  obtain ⟨_, h8, _⟩ := hk
  cases k with
  | zero => simp [St.pins]
  | succ k => simp [Env.at] at h8
 ·simp only [List.mem_map] at hb'
  obtain ⟨b', hb1, hb2⟩ := hb'
  cases hb2
  obtain ⟨c9, t9, h9⟩ := hU b hb1
  rw [h9] at hc'; cases hc'; rfl
 ·cases k with
  | zero => simp [St.pins] at hb; subst hb; rfl
  | succ k => simp [St.pins] at hb
 ·cases hb
  exact List.mem_map.2 ⟨x, hx, rfl⟩

/-- an empty slice -/
theorem zJv {P : Program} {f : FuncId} {a : Option Addr} {z c : Nat} {k : Int} {N : Nat} {R : D → Int → Nat → Prop} (h : ACalls P f [.int .i64] [.sv a z [] c, .int .i64 k] N fun k' N' => R (.sl a z [] c) k' N') : MC P f (.sl a z [] c) k N R := by
 have hfoot : (D.sl a z [] c).foot = [] := by cases a <;> simp [D.foot, zA]
 refine ⟨h.c, fun w0 hN hH hU => (h.h (fun _ => False) w0 hN (fun b hb => hb.elim) fun p hp => ?_).mono fun en w' hen => ?_⟩
 ·simp at hp
  rcases hp with rfl | rfl
  ·exact ⟨⟨hH, by rw [hfoot]; simp⟩, rfl⟩
  ·exact ⟨trivial, rfl⟩
 ·cases en with
  | panicked => exact hen.elim
  | outgrown => exact hen.elim
  | returned v =>
    obtain ⟨ps, rows, e, hd⟩ := hen
    have hq := hd.q
    rcases ps with _ | ⟨p, _ | ⟨q, ps⟩⟩
    ·simp [QT.app] at hq
    ·cases p <;> simp [QT.app] at hq
     rename_i k2 n
     cases rows with
     | cons B rows => simp [QT.app] at hq
     | nil =>
       obtain ⟨rfl, hq⟩ := hq
       refine ⟨.sl a z [] c, n, hd.v, ⟨hd.size, fun b hb _ => hd.old b hb, fun b c' t z' hb hc => ?_, hH.mono (by rw [hfoot]; simp), rfl, rfl, .inl ⟨_, _, _, _, _, rfl, rfl⟩, hd.ku⟩, hq⟩
       rcases hb with hb | hb
       ·exact hd.fz b c' t z' hb hc
       ·rw [hfoot] at hb; simp at hb
    ·cases p <;> simp [QT.app] at hq

/-- a struct -/
theorem zLr {P : Program} {sh : FuncId → List Sh} {f : FuncId} {H : Hint} {fuel : Nat} {cs : List D} {n : Nat} {xr : Nat × TypeId} {k : Int} {N : Nat} {R : D → Int → Nat → Prop} {QM : Int → D → Nat → Prop} (hm : P.follows .mixedOrders = true) (hc : yr P f = true)
  (hag : IsAg n (.ag cs))
  (hx : zEo P sh f N (.mk (D.ag cs).foot none xr QM) H fuel [.dg n (.ag cs), .int .i64 k] [] (some ([], (D.ag cs).foot)))
  (hQ : ∀ k' x N', QM k' x N' → ∃ cs', x = .ag cs' ∧ cs'.map D.cv = cs.map D.cv ∧ zA cs' = zA cs ∧ R (.ag cs') k' N') : MC P f (.ag cs) k N R := by
 refine ⟨hc, fun w0 hN hH hU => ?_⟩
 subst hN
 unfold zEo at hx
 split at hx
 rotate_left
 ·exact hx.elim
 rename_i fn hf
 split at hx
 rotate_left
 ·exact hx.elim
 rename_i code hb
 rw [tL] at hx
 have hAT := zGd hm _ _ _ _ hx
 have hnl : ∀ k b, ¬ Lives [] [] ([] : List Bx) k b := fun k b ⟨_, _, B, h3, _⟩ => by simp at h3
 have hlive : ∀ b, ¬ zX (fun _ => False) [] [] ([] : List Bx) b := fun b hb => hb.elim id fun ⟨k, hk⟩ => hnl k b hk
 have hval : #[(D.ag cs).val, .int .i64 k] = ([PV.dg n (.ag cs), .int .i64 k].map (PV.val [])).toArray := by simp [PV.val, PV.val1, PV.cv]
 rw [hval]
 refine zAk hf hb ?_
 have hrel := zIU (w0 := w0) (args := [PV.dg n (.ag cs), .int .i64 k]) (bx := []) (e := []) (e0 := (D.ag cs).foot.map some) (pin := some ([], (D.ag cs).foot)) (nt := fn.ntmps)
  { el := rfl, br := fun k B hk _ => by simp at hk, bo := fun k B hk _ => by simp at hk, bf := fun k B hk _ j hj => by simp at hk, inj := fun i j b hi hj => absurd hi (hnl i b) }
  (fun p hp => ?_) (fun b hb => hb.elim) (fun k b hk => id) (fun k b hk => absurd hk (hnl k b)) (fun b c' t' z' hb' hc' => ?_) (fun k b hb => by simp [St.pins] at hb) (fun ob T hb x hx => ?_)
 ·have hend := hAT.h (fun _ => False) w0 _ w0 _ rfl hrel
  intro s
  obtain ⟨en, w', fr, hfin, hrest⟩ := hend s
  refine ⟨en, w', fr, ?_, hrest⟩
  cases en with
  | panicked => exact hfin.elim
  | outgrown => exact hfin.elim
  | returned v =>
    obtain ⟨k', x, rfl, hd⟩ := hfin
    obtain ⟨cs', rfl, g1, g2, g3⟩ := hQ _ _ _ hd.q
    obtain ⟨n', cs2, h5, _, h6⟩ := hd.bx
    cases h5
    exact ⟨.ag cs', k', rfl, ⟨hd.size, hd.old, hd.fz, hd.hd, by simp only [D.foot]; exact g2, by simp only [D.cells]; exact g1, .inr ⟨_, _, rfl, rfl, h6⟩, hd.ku⟩, g3⟩
 ·simp at hp
  rcases hp with rfl | rfl
  ·exact ⟨⟨⟨hH, fun b _ hl => hlive b hl⟩, hag⟩, by simp [PV.refs]⟩
  ·exact ⟨trivial, by simp [PV.refs]⟩
 ·simp only [List.mem_map] at hb'
  obtain ⟨b', hb1, hb2⟩ := hb'
  cases hb2
  obtain ⟨c9, t9, h9⟩ := hU b hb1
  rw [h9] at hc'; cases hc'; rfl
 ·cases hb
  exact List.mem_map.2 ⟨x, hx, rfl⟩

theorem zP3 {P : Program} {sh : FuncId → List Sh} {f : FuncId} {H : Hint} {fuel : Nat} {ad : Addr} {z c : Nat} {es : List D} {k : Int} {N : Nat} {R : D → Int → Nat → Prop} {QM : Int → D → Nat → Prop} {F : Nat → Prop} (hm : P.follows .mixedOrders = true) (hc : yr P f = true)
  (he : ∀ t, F t = zEo P sh f N (.mk (D.sl (some ad) z es c).foot (some ad.block) (z, 0) QM) H fuel [.sb 0 z 0 es.length c, .int .i64 k] [.arr t z es es.length] (some ([some ad.block], (D.sl (some ad) z es c).foot)))
  (htree : Tree (.sl (some ad) z es c)) (hne : es ≠ []) (hlen : es.length ≤ maxLen) (hx : ∀ t, F t)
  (hQ : ∀ k' x N', QM k' x N' → ∃ es', x = .ag es' ∧ es'.length = es.length ∧ zA es' = zA es ∧ R (.sl (some ad) z es' c) k' N') : MC P f (.sl (some ad) z es c) k N R :=
 zMv hm hc htree hne hlen (fun t => he t ▸ hx t) hQ
theorem zQX {P : Program} {sh : FuncId → List Sh} {f : FuncId} {H : Hint} {fuel : Nat} {cs : List D} {n : Nat} {xr : Nat × TypeId} {k : Int} {N : Nat} {R : D → Int → Nat → Prop} {QM : Int → D → Nat → Prop} {F : Prop} (hm : P.follows .mixedOrders = true) (hc : yr P f = true)
  (he : F = zEo P sh f N (.mk (D.ag cs).foot none xr QM) H fuel [.dg n (.ag cs), .int .i64 k] [] (some ([], (D.ag cs).foot)))
  (hag : IsAg n (.ag cs)) (hx : F)
  (hQ : ∀ k' x N', QM k' x N' → ∃ cs', x = .ag cs' ∧ cs'.map D.cv = cs.map D.cv ∧ zA cs' = zA cs ∧ R (.ag cs') k' N') : MC P f (.ag cs) k N R :=
 zLr hm hc hag (he ▸ hx) hQ

/-! calls that may write the caller's boxes -/

end Go.Proofs.YtfkmegifjiiclaaGreat

/- Shapes of results. -/
set_option maxRecDepth 100000
namespace Go.Proofs.YtfkmegifjiiclaaGreat
open Go Go.Proofs Go.Proofs.Tryz
def sh : FuncId → List Sh := fun f => zOJ f [(3, [.bool]), (4, [.bool]), (5, [.bool]), (6, [.bool]), (7, [.bool]), (8, [.bool]), (9, [.int .i64]), (10, [.int .i64]), (11, [.ag 9]), (12, [.sl 4]), (13, [.ag 9]), (14, [.ag 9]), (15, [.bool]), (16, [.bool]), (17, [.int .i64]), (18, [.int .i64]), (19, [.int .i64]), (20, [.int .i64, .bool]), (21, [.sl 0]), (22, [.int .i64, .bool]), (23, [.bool]), (24, [.ag 9, .bool]), (25, [.ag 9, .bool]), (26, [.int .i64]), (27, [.ag 9, .bool]), (28, [.ag 9, .bool]), (29, [.ag 9, .bool]), (30, [.ag 9, .bool]), (31, [.sl 9]), (32, [.sl 9]), (33, [.bool]), (34, [.int .i64]), (35, [.int .i64]), (36, [.int .i64]), (37, [.int .i64]), (38, [.int .i64]), (39, [.ag 2, .bool]), (40, [.ag 9]), (41, [.sl 2]), (42, [.ag 4]), (43, [.ag 2]), (44, [.sl 9]), (45, [.ag 2, .bool]), (46, [.sl 3]), (47, [.ag 9]), (48, [.bool]), (49, [.bool]), (50, [.str]), (51, [.int .i64]), (52, [.int .i64]), (53, [.int .i64]), (54, [.sl 4, .sl 4]), (55, [.int .i64, .bool]), (56, [.sl 4, .sl 4]), (57, [.int .i64]), (58, [.int .i64, .bool]), (59, [.bool]), (60, [.ag 9]), (61, [.sl 4]), (62, [.bool]), (63, [.ag 9]), (64, [.ag 9]), (65, [.ag 9]), (66, [.ag 9]), (67, [.ag 9]), (68, [.ag 9]), (69, [.ag 9]), (70, [.sl 9]), (71, [.sl 0]), (72, [.bool]), (73, [.int .i64]), (74, [.int .i64]), (75, [.pk, .int .i64, .str, .str, .int .i64, .dc, .dc, .dc, .dc, .row 36 9]), (76, [.sl 9]), (77, [.sl 0]), (78, [.bool]), (79, [.bool]), (80, [.bool]), (81, []), (82, [.int .i64]), (83, [.int .i64]), (84, [.int .i64]), (85, [.bool]), (86, [.bool]), (87, [.bool]), (88, [.ag 2, .bool]), (89, [.bool]), (90, [.ag 9]), (91, [.ag 9]), (92, [.sl 2]), (93, [.ag 9]), (94, [.sl 2]), (95, [.bool]), (96, [.bool]), (97, [.bool]), (98, [.bool]), (99, [.bool]), (100, [.ag 2, .bool]), (101, [.sl 3]), (102, [.bool]), (103, [.ag 9]), (104, [.ag 9]), (105, [.ag 9]), (106, [.sl 3]), (107, [.ag 9]), (108, [.bool]), (109, [.ag 2]), (110, [.int .i64]), (111, [.ag 2]), (112, [.int .i64]), (113, [.bool]), (114, [.sl 2]), (115, [.ag 9]), (116, [.sl 2]), (117, [.ag 9]), (118, [.bool]), (119, [.ag 9]), (120, [.ag 2]), (121, [.sl 4]), (122, [.ag 9]), (124, [.ag 9]), (125, [.bool]), (126, [.sl 0]), (127, [.bool]), (128, [.bool]), (129, [.sl 0]), (130, [.bool]), (131, [.bool]), (132, [.int .i64]), (133, []), (134, [.bool]), (135, [.bool]), (136, [.int .i64]), (137, [.int .i64]), (138, [.int .i64]), (139, [.bool]), (140, [.ag 2, .bool]), (141, [.bool]), (142, [.bool]), (143, [.bool]), (144, [.bool]), (145, [.int .i64]), (146, [.bool]), (147, [.int .i64]), (148, [.bool]), (149, [.bool]), (150, [.row 121 3]), (151, [.ag 3]), (152, [.ag 9]), (153, [.int .i64, .bool]), (154, [.int .i64, .bool]), (155, [.ag 9]), (156, [.sl 4]), (157, [.sl 3]), (158, [.bool]), (159, [.ag 9]), (160, [.ag 2]), (161, [.bool]), (162, [.sl 4]), (163, []), (164, [.sl 0]), (165, [.sl 0]), (166, [.bool]), (167, [.sl 0]), (168, [.bool]), (169, [.bool]), (170, [.row 9 0]), (171, [.bool]), (172, []), (173, []), (174, [.int .i64]), (175, [.bool]), (176, [.int .i64]), (177, [.int .i64]), (178, [.ag 2]), (179, [.ag 2]), (180, [.ag 2, .bool]), (181, [.ag 2, .bool]), (182, [.ag 2, .bool]), (183, [.int .i64]), (184, [.int .i64]), (185, [.bool]), (186, [.int .i64]), (187, [.bool]), (188, [.bool]), (189, [.bool]), (190, [.bool]), (191, [.bool]), (193, [.int .i64]), (194, [.int .i64]), (195, [.int .i64]), (196, [.int .i64]), (197, [.ag 9]), (198, [.ag 9]), (199, [.ag 2]), (200, [.int .i64]), (201, [.ag 2]), (202, [.ag 2]), (203, [.ag 2]), (204, [.ag 2]), (205, [.ag 2]), (206, [.int .i64]), (207, [.int .i64]), (208, [.bool]), (209, [.bool]), (210, [.row 97 4]), (211, [.sl 0, .int .i64]), (212, [.sl 0]), (213, [.int .i64]), (214, [.sl 0, .int .i64]), (215, [.sl 0]), (216, [.bool]), (217, [.sl 0]), (218, []), (219, [.bool]), (220, [.bool]), (221, [.int .i64]), (222, [.ag 2]), (223, [.sl 4]), (224, [.int .i64]), (225, [.ag 2]), (226, [.ag 2, .bool]), (227, [.int .i64]), (228, [.bool]), (229, [.int .i64]), (230, [.int .i64]), (231, []), (232, [.ag 2]), (233, [.ag 2]), (234, [.sl 4]), (235, [.bool]), (236, [.bool]), (237, [.sl 0]), (238, []), (239, [.int .i64]), (240, [.int .i64]), (241, [.sl 0])]
theorem zPt : prog.follows .mixedOrders = true := by kernel_rfl
theorem eE {f : FuncId} {rs : List Sh} {Q : QT rs} {N : Nat} {H : Hint} {args : List PV} {F : Prop} (hc : yr prog f = true) (he : F = zKT prog sh f rs Q N H 400 args) (h : F) : ACalls prog f rs args N Q := zPq zPt hc he h
theorem hE {f : FuncId} {rs : List Sh} {Q : QT rs} {N0 : Nat} {M : Mode} {H : Hint} {items : List Item} {st : St} {F : Prop} (he : F = zCU st fun st => W prog sh f rs Q N0 M H 400 true items st) (h : F) : AT prog f rs Q N0 M items st := zQS zPt he h

end Go.Proofs.YtfkmegifjiiclaaGreat
