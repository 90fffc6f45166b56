/- What is left of a body: what it is. -/
import Derived.Test.YtfkmegifjiiclaaGreatWc
import Derived.Test.YtfkmegifjiiclaaGreatWe
import Derived.Test.YtfkmegifjiiclaaGreatWx
set_option linter.unusedVariables false
set_option linter.unusedSimpArgs false
namespace Go.Proofs.YtfkmegifjiiclaaGreat
open Go Go.Proofs Go.Proofs.Tryz Go.IntWalk

def zMH (t : Ty) (n : Int) : Tm := .mk (if t.k = 2 then 3 else 2) (bytes []) (bytes []) n (.mk 0 []) (.mk 0 []) []
/-- names, numbers and types in the part at a place -/
def wI (k : Int) (nm : ByteArray) (w : List Pl) (i : Nat) : List Pl := if i = 0 then w else if k = 8 then w ++ [(nm, 0, true)] else w
def zQQ : List Tm → List Tg → Ty
 | [], _ => tZero
 | x :: _, g => tyZ x g 0
def gI (k : Int) (nm : ByteArray) (l : List Tm) (g : List Tg) (i : Nat) : List Tg := if i = 0 then g else if k = 8 then g ++ [⟨nm, zQQ l g, 0⟩] else g
mutual
def Tm.sp : Tm → List Pl → List Tg → Tm
 | .mk k nm ot n ty re l, w, g => if (Tm.mk k nm ot n ty re l).late (w.map plB) = false then zMH (tyZ (.mk k nm ot n ty re l) g 0) ((Tm.mk k nm ot n ty re l).ev (w.map plN))
   else if k = 5 ∧ zCJ l (w.map plB) = false then zMl l (2 - zIw l 0 (w.map plN)).toNat w g
   else if k = 8 ∧ zCJ l (w.map plB) = false then zKw l nm w g else .mk k nm ot n ty re (xS l k nm w g)
def zMl : List Tm → Nat → List Pl → List Tg → Tm
 | [], _, _, _ => Tm.nod 0 []
 | x :: _, 0, w, g => x.sp w g
 | _ :: xs, i + 1, w, g => zMl xs i w g
def zKw : List Tm → ByteArray → List Pl → List Tg → Tm
 | [], _, _, _ => Tm.nod 0 []
 | x :: xs, nm, w, g => zMl xs 0 (w ++ [(nm, x.ev (w.map plN), false)]) (g ++ [⟨nm, tyZ x g 0, 0⟩])
def zBs : List Tm → List Pl → List Tg → List Tm
 | [], _, _ => []
 | x :: xs, w, g => x.sp w g :: zBs xs w g
def xS : List Tm → Int → ByteArray → List Pl → List Tg → List Tm
 | [], _, _, _, _ => []
 | x :: xs, k, nm, w, g => x.sp w g :: zBs xs (if k = 8 then w ++ [(nm, 0, true)] else w) (if k = 8 then g ++ [⟨nm, tyZ x g 0, 0⟩] else g)
end
theorem zNG (t : Ty) (n : Int) : (zMH t n).cnt = 3 := by simp only [zMH, Tm.cnt, Ty.cnt, zH, zJ]
mutual
theorem zEr : ∀ (t : Tm) (w : List Pl) (g : List Tg), (t.sp w g).cnt ≤ t.cnt
 | .mk k nm ot n ty re l, w, g => by
   have h3 := Tm.cnt3 (.mk k nm ot n ty re l)
   have h1 := zFj l (2 - zIw l 0 (w.map plN)).toNat w g
   have h2 := zMd l nm w g
   have h4 := zJL l k nm w g
   simp only [Tm.cnt] at h3 ⊢
   simp only [Tm.sp]
   (repeat' split)
   ·rw [zNG]; omega
   ·omega
   ·omega
   ·simp only [Tm.cnt]; omega
theorem zFj : ∀ (l : List Tm) (i : Nat) (w : List Pl) (g : List Tg), (zMl l i w g).cnt ≤ max 3 (zJ l)
 | [], _, _, _ => by simp only [zMl, zF6, zJ]; omega
 | x :: xs, 0, w, g => by simp only [zMl, zJ]; have := zEr x w g; omega
 | x :: xs, i + 1, w, g => by simp only [zMl, zJ]; have := zFj xs i w g; have := x.cnt3; omega
theorem zMd : ∀ (l : List Tm) (nm : ByteArray) (w : List Pl) (g : List Tg), (zKw l nm w g).cnt ≤ max 3 (zJ l)
 | [], _, _, _ => by simp only [zKw, zF6, zJ]; omega
 | x :: xs, nm, w, g => by simp only [zKw, zJ]; have := zFj xs 0 (w ++ [(nm, x.ev (w.map plN), false)]) (g ++ [⟨nm, tyZ x g 0, 0⟩]); have := x.cnt3; omega
theorem zIQ : ∀ (l : List Tm) (w : List Pl) (g : List Tg), zJ (zBs l w g) ≤ zJ l
 | [], _, _ => by simp only [zBs, zJ]; omega
 | x :: xs, w, g => by simp only [zBs, zJ]; have := zEr x w g; have := zIQ xs w g; omega
theorem zJL : ∀ (l : List Tm) (k : Int) (nm : ByteArray) (w : List Pl) (g : List Tg), zJ (xS l k nm w g) ≤ zJ l
 | [], _, _, _, _ => by simp only [xS, zJ]; omega
 | x :: xs, k, nm, w, g => by
   simp only [xS, zJ]
   have := zEr x w g
   have := zIQ xs (if k = 8 then w ++ [(nm, 0, true)] else w) (if k = 8 then g ++ [⟨nm, tyZ x g 0, 0⟩] else g)
   omega
end
theorem zHt : ∀ (l : List Tm) (w : List Pl) (g : List Tg), (zBs l w g).length = l.length
 | [], _, _ => by simp only [zBs]
 | x :: xs, w, g => by simp only [zBs, List.length_cons, zHt xs w g]
theorem zCN : ∀ (l : List Tm) (k : Int) (nm : ByteArray) (w : List Pl) (g : List Tg), (xS l k nm w g).length = l.length
 | [], _, _, _, _ => by simp only [xS]
 | x :: xs, k, nm, w, g => by simp only [xS, List.length_cons, zHt xs]
theorem zIY : ∀ (l : List Tm) (w : List Pl) (g : List Tg) (i : Nat) (x : Tm), l[i]? = some x → (zBs l w g)[i]? = some (x.sp w g)
 | [], w, g, i, x, h => by simp at h
 | y :: ys, w, g, 0, x, h => by simp at h; subst h; simp [zBs]
 | y :: ys, w, g, i + 1, x, h => by simp only [zBs, List.getElem?_cons_succ]; exact zIY ys w g i x (by simpa using h)
theorem zCM : ∀ (l : List Tm) (k : Int) (nm : ByteArray) (w : List Pl) (g : List Tg) (i : Nat) (x : Tm), l[i]? = some x → (xS l k nm w g)[i]? = some (x.sp (wI k nm w i) (gI k nm l g i))
 | [], _, _, w, g, i, x, h => by simp at h
 | y :: ys, k, nm, w, g, 0, x, h => by simp at h; subst h; simp [xS, wI, gI]
 | y :: ys, k, nm, w, g, i + 1, x, h => by
   simp only [xS, List.getElem?_cons_succ]
   rw [zIY ys _ _ i x (by simpa using h)]
   simp [wI, gI, zQQ]
theorem zHx (t : Ty) : zBj t 0 = true := by unfold zBj; split <;> decide
/-- what specialization may count on -/
structure SpC (t : Tm) (w : List Pl) (g : List Tg) : Prop where
 ok : t.ok = true
 b : t.isB = true
 pre : Pre g t 0
 ty : ∃ u, t.type g 0 = some u
 fit : Fit (w.map plN) g
theorem zPS {t : Tm} {g : List Tg} {n : Int} {u : Ty} (h : t.type g n = some u) : tyZ t g n = u := by simp [tyZ, h]
theorem zE5 {k : Int} (h : zBy k = true) : zu k 0 = 0 := by
 simp only [zBy, Bool.or_eq_true, yJ, beq_iff_eq] at h
 unfold zu; rw [if_neg (by omega), if_neg (by omega)]
theorem SpC.flat {k : Int} {nm ot : ByteArray} {n : Int} {ty re : Ty} {l : List Tm} {w : List Pl} {g : List Tg} (h : SpC (.mk k nm ot n ty re l) w g) (hk : k = 4 ∨ k = 5) {x : Tm} (hx : x ∈ l) : SpC x w g := by
 have hb := h.b
 simp only [Tm.isB, Bool.and_eq_true] at hb
 obtain ⟨u, hu⟩ := h.ty
 obtain ⟨ts, hts, _⟩ := vL hu hk
 refine ⟨(za h.ok).sub x hx, xL hb.1 hx, ?_, rX hts x hx, h.fit⟩
 have := h.pre.sub (g' := g) hx (by omega) h.pre.ty
 rwa [zE5 hb.2] at this
theorem SpC.let_ {nm ot : ByteArray} {n : Int} {ty re : Ty} {x0 x1 : Tm} {w : List Pl} {g : List Tg} (h : SpC (.mk 8 nm ot n ty re [x0, x1]) w g) :
  SpC x0 w g ∧ SpC x1 (w ++ [(nm, 0, true)]) (g ++ [⟨nm, tyZ x0 g 0, 0⟩]) ∧ SpC x1 (w ++ [(nm, x0.ev (w.map plN), false)]) (g ++ [⟨nm, tyZ x0 g 0, 0⟩]) := by
 have hb := h.b
 simp only [Tm.isB, Bool.and_eq_true] at hb
 have nd := za h.ok
 have m0 : x0 ∈ [x0, x1] := by simp
 have m1 : x1 ∈ [x0, x1] := by simp
 obtain ⟨u, hu⟩ := h.ty
 obtain ⟨u0, e0, e1⟩ := zGP hu
 have p0 := h.pre.sub (g' := g) m0 (by omega) h.pre.ty
 have p1 := h.pre.sub (g' := g ++ [⟨nm, tyZ x0 g 0, 0⟩]) m1 (by simp) (tD h.pre.ty (by have := zFt x0 g 0; show (tyZ x0 g 0).cnt ≤ 64; omega))
 rw [zE5 hb.2] at p0 p1
 have hz := zPS e0
 rw [← hz] at e1
 have key : ∀ m b, zBj (tyZ x0 g 0) m = true → Fit ((w ++ [(nm, m, b)]).map plN) (g ++ [⟨nm, tyZ x0 g 0, 0⟩]) := fun m b hm => by
  rw [List.map_append]
  exact h.fit.snoc (x := ⟨nm, tyZ x0 g 0, 0⟩) (y := (nm, m)) rfl hm
 refine ⟨⟨nd.sub x0 m0, xL hb.1 m0, p0, ⟨_, e0⟩, h.fit⟩, ⟨nd.sub x1 m1, xL hb.1 m1, p1, ⟨_, e1⟩, key _ _ (zHx _)⟩, ⟨nd.sub x1 m1, xL hb.1 m1, p1, ⟨_, e1⟩, key _ _ ?_⟩⟩
 rw [hz]
 exact qc x0 (nd.sub x0 m0) (xL hb.1 m0) g _ h.fit u0 e0
/-- the value of a condition -/
theorem SpC.cond {nm ot : ByteArray} {n : Int} {ty re : Ty} {x0 x1 x2 : Tm} {w : List Pl} {g : List Tg} (h : SpC (.mk 5 nm ot n ty re [x0, x1, x2]) w g) : x0.ev (w.map plN) = 0 ∨ x0.ev (w.map plN) = 1 := by
 obtain ⟨u, hu⟩ := h.ty
 obtain ⟨ts, hts, hfm⟩ := vL hu (.inr rfl)
 obtain ⟨u0, us0, e0, q6, e3⟩ := yD hts
 obtain ⟨u1, us1, e1, q7, e4⟩ := yD q6
 obtain ⟨u2, us2, e2, q8, e5⟩ := yD q7
 have hus2 : us2 = [] := by simp only [ze] at q8; exact (Option.some.inj q8).symm
 subst hus2; subst e5; subst e4; subst e3
 have hu0 : u0.k = 2 := by
  unfold yV at hfm
  rw [if_neg (by omega), if_pos rfl] at hfm
  split at hfm
  ·rename_i hcc; exact hcc.1
  ·cases hfm
 have s0 := h.flat (.inr rfl) (x := x0) (by simp)
 exact zAC hu0 (qc x0 s0.ok s0.b g _ h.fit u0 e0)
theorem SpC.part {k : Int} {nm ot : ByteArray} {n : Int} {ty re : Ty} {l : List Tm} {w : List Pl} {g : List Tg} (h : SpC (.mk k nm ot n ty re l) w g) {i : Nat} {x : Tm} (hx : l[i]? = some x) : SpC x (wI k nm w i) (gI k nm l g i) := by
 have hb := h.b
 simp only [Tm.isB, Bool.and_eq_true] at hb
 have nd := za h.ok
 have har := nd.ar
 have hlt : i < l.length := (List.getElem?_eq_some_iff.1 hx).1
 have kc : k = 1 ∨ k = 2 ∨ k = 3 ∨ k = 4 ∨ k = 5 ∨ k = 8 := by
  have := hb.2
  simp only [zBy, Bool.or_eq_true, yJ, beq_iff_eq] at this
  omega
 rcases kc with rfl | rfl | rfl | rfl | rfl | rfl
 ·rw [show r8 1 nm = 0 from rfl] at har; omega
 ·rw [show r8 2 nm = 0 from rfl] at har; omega
 ·rw [show r8 3 nm = 0 from rfl] at har; omega
 ·have := h.flat (.inl rfl) (List.mem_of_getElem? hx)
  simpa [wI, gI] using this
 ·have := h.flat (.inr rfl) (List.mem_of_getElem? hx)
  simpa [wI, gI] using this
 ·rw [show r8 8 nm = 2 from rfl] at har
  match l, har with
  | [x0, x1], _ =>
    obtain ⟨h0, h1, _⟩ := h.let_
    match i, hx with
    | 0, hx => simp at hx; subst hx; exact h0
    | 1, hx => simp at hx; subst hx; simpa [wI, gI, zQQ] using h1
    | i + 2, hx => simp at hx
  | [], h => simp at h
  | [_], h => simp at h
  | _ :: _ :: _ :: _, h => simp at h; omega
end Go.Proofs.YtfkmegifjiiclaaGreat

/- What is left of a body: the reference. -/
set_option linter.unusedVariables false
set_option linter.unusedSimpArgs false
namespace Go.Proofs.YtfkmegifjiiclaaGreat
open Go Go.Proofs Go.Proofs.Tryz Go.IntWalk

def spB (p : Pl) : D := .ag [.lit (.string p.1), .lit (.bool p.2.2), .lit (.int .i64 p.2.1)]
theorem zHY : ∀ v : List Pl, All2 (fun b d => d = spB b) v (v.map spB)
 | [] => rfl
 | b :: v => ⟨_, _, rfl, rfl, zHY v⟩
theorem zKA (k n : Int) : (Tm.mk k (bytes []) (bytes []) n (.mk 0 []) (.mk 0 []) []).Is (.ag [.lit (.int .i64 k), .lit (.string (bytes [])), .lit (.string (bytes [])), .lit (.int .i64 n), .lit (.int .i64 0), .sl none 2 [] 0, .lit (.int .i64 0), .sl none 2 [] 0, .sl none 9 [] 0]) :=
 Tm.is_mk.2 ⟨_, _, _, _, _, _, _, rfl, ⟨by decide, by decide, xu _, xu _⟩, by simp, rfl⟩
theorem zCA {N N' : Nat} (k n : Int) : Own N N' (.ag [.lit (.int .i64 k), .lit (.string (bytes [])), .lit (.string (bytes [])), .lit (.int .i64 n), .lit (.int .i64 0), .sl none 2 [] 0, .lit (.int .i64 0), .sl none 2 [] 0, .sl none 9 [] 0]) :=
 wm (zE (zE (zE (zE (zE (zAp (zE (zAp (zN ⟨by simp [D.foot, zA], ⟨by simp, trivial⟩, by simp [D.foot, zA], by simp [D.foot, zA]⟩))))))))) 
theorem zOH {t : Ty} {n : Int} (h : t.k = 2) : zMH t n = .mk 3 (bytes []) (bytes []) n (.mk 0 []) (.mk 0 []) [] := by unfold zMH; rw [if_pos h]
theorem zOB {t : Ty} {n : Int} (h : ¬ t.k = 2) : zMH t n = .mk 2 (bytes []) (bytes []) n (.mk 0 []) (.mk 0 []) [] := by unfold zMH; rw [if_neg h]
theorem rI : ∀ {u v : List D}, yw (u ++ v) → yw u ∧ yw v
 | [], v, h => ⟨trivial, h⟩
 | y :: u, v, h => by obtain ⟨g1, g2⟩ := rI (u := u) h.2; exact ⟨⟨h.1, g1⟩, g2⟩
/-- a row of one's own behind the other cells -/
theorem zJb {N0 N1 N3 : Nat} {hd es ds : List D} {a : Option Addr} {z c : Nat} (h : OwnL N0 N1 (hd ++ es)) (hf : Fresh N0 N3 a (.ag es :: (hd ++ ds))) (hN : N1 ≤ N3) : OwnL N0 N3 (hd ++ [.sl a z es c]) := by
 obtain ⟨f1, f2⟩ := rI h.fl
 have hn := h.nd
 rw [zC, List.nodup_append] at hn
 have e : zA (hd ++ [D.sl a z es c]) = zA hd ++ (D.sl a z es c).foot := by simp only [zC, zA, List.append_nil]
 have hE : ∀ ad, a = some ad → ad.block ∉ zA es := fun ad h => hf.ap ad h (.ag es) (by simp)
 have hH : ∀ ad, a = some ad → ad.block ∉ zA hd := fun ad h hc => by
  obtain ⟨d, hd', hb⟩ := zI.1 hc
  exact hf.ap ad h d (by simp [hd']) hb
 refine ⟨?_, yv f1 ⟨⟨fun ad h => hf.off ad h, f2⟩, trivial⟩, fun b hb => ?_, fun b hb => ?_⟩
 ·rw [e, List.nodup_append]
  refine ⟨hn.1, zJ9 hn.2.1 hE, fun x hx y hy hxy => ?_⟩
  subst hxy
  rcases wb x hy with h9 | ⟨ad, h9, h'⟩
  ·exact hn.2.2 x hx x h9 rfl
  ·subst h'; exact hH ad h9 hx
 ·rw [e] at hb
  rcases List.mem_append.1 hb with hb | hb
  ·exact h.lo b (by rw [zC]; exact List.mem_append_left _ hb)
  ·rcases wb b hb with h9 | ⟨ad, h9, h'⟩
   ·exact h.lo b (by rw [zC]; exact List.mem_append_right _ h9)
   ·subst h'; exact hf.lo ad h9
 ·rw [e] at hb
  rcases List.mem_append.1 hb with hb | hb
  ·have := h.hi b (by rw [zC]; exact List.mem_append_left _ hb); omega
  ·rcases wb b hb with h9 | ⟨ad, h9, h'⟩
   ·have := h.hi b (by rw [zC]; exact List.mem_append_right _ h9); omega
   ·subst h'; exact hf.hi ad h9
theorem zAX {t : Ty} {d : D} (hd : t.Is d) (n : Int) : Cop 155 9 [.dg 2 d, .int .i64 n] (zMH t n).Is := fun N Q hQ => by
 obtain ⟨kk, l⟩ := t
 obtain ⟨a, es, c, rfl, hlen, hes⟩ := Ty.is_mk.1 hd
 refine zAz N _ n Q fun _ => ⟨_, rfl, Br.beq (fun h N1 hN1 => ?_) fun h N1 hN1 => ?_⟩
 ·rw [zOH (t := .mk kk l) h] at hQ
  exact zG2 N1 n _ fun N2 hN2 _ _ N3 hN3 => hQ _ _ (by omega) (zKA _ _) (zCA _ _)
 ·rw [zOB (t := .mk kk l) h] at hQ
  exact zIn N1 n _ fun N2 hN2 _ _ N3 hN3 => hQ _ _ (by omega) (zKA _ _) (zCA _ _)
theorem zEp (w : List Pl) (hw : w.length ≤ 1073741824) (a : Option Addr) (c : Nat) : zQl 114 [.sv a 3 (w.map spB) c] (w.map plB) := fun N Q hQ => by
 have hl := (zHY w).len
 refine zDE N a _ c Q fun _ => ?_
 refine up (zHY w) (by omega) (fun i xs => ∀ (q : Nat) (N' : Nat), N ≤ N' → xH Q N a (w.map spB) c ((w.map plB).take i).length q i (((w.map plB).take i).map bdD) q N') ?_ ?_ 0 N (Nat.le_refl _)
 ·intro i hlt hi q N' hN'
  refine uw _ _ _ _ _ _ _ _ _ _ _ ?_
  rw [List.take_of_length_le (by simp; omega), hlt]
  have hml : (w.map plB).length = ((w.map plB).map bdD).length := by simp
  exact ⟨⟨hml, rfl⟩, ⟨hml, rfl⟩, ⟨hml, rfl⟩, fun a2 N1 hN1 _ N2 hN2 => hQ _ _ _ (by omega)⟩
 ·intro i x xs hat _ ih2 q N' hN'
  have hb := hat.b
  have hr := hat.r
  have hat2 : (w.map plB)[i]? = some (plB x) := by rw [List.getElem?_map, hat.g]; rfl
  have hml : ((w.map plB).take i).length = (((w.map plB).take i).map bdD).length := by simp
  have hsn : ((w.map plB).take i).map bdD ++ [D.ag [.lit (.string x.1), .lit (.bool x.2.2)]] = ((w.map plB).take (i + 1)).map bdD := by rw [zY hat2, List.map_append]; rfl
  have hml2 : (((w.map plB).take (i + 1)).map bdD).length = ((w.map plB).take (i + 1)).length := by simp
  have hti : ((w.map plB).take (i + 1)).length ≤ i + 1 := by rw [List.length_take]; omega
  refine uw _ _ _ _ _ _ _ _ _ _ _ ?_
  rw [hat.lt, Int.toNat_natCast, hr]
  refine ⟨⟨by omega, by omega⟩, _, rfl, ⟨by omega, by omega⟩, _, rfl, ⟨hml, rfl⟩, by unfold zB; rw [hsn, hml2]; omega, fun c1 => ?_⟩
  rw [hsn, hml2, hat.w]
  exact ih2 _ _ hN'
def zQu (f : FuncId) (args : List PV) (v : List Nb) : Prop := ∀ (N : Nat) (Q : QT [.sl 2]), (∀ a c N', N ≤ N' → Q a (v.map nbD) c N') → ACalls prog f [.sl 2] args N Q
theorem qf (w : List Pl) (hw : w.length ≤ 1073741824) (a : Option Addr) (c : Nat) : zQu 116 [.sv a 3 (w.map spB) c] (w.map plN) := fun N Q hQ => by
 have hl := (zHY w).len
 refine zBm N a _ c Q fun _ => ?_
 refine up (zHY w) (by omega) (fun i xs => ∀ (q : Nat) (N' : Nat), N ≤ N' → y6 Q N a (w.map spB) c ((w.map plN).take i).length q i (((w.map plN).take i).map nbD) q N') ?_ ?_ 0 N (Nat.le_refl _)
 ·intro i hlt hi q N' hN'
  refine uD _ _ _ _ _ _ _ _ _ _ _ ?_
  rw [List.take_of_length_le (by simp; omega), hlt]
  have hml : (w.map plN).length = ((w.map plN).map nbD).length := by simp
  exact ⟨⟨hml, rfl⟩, ⟨hml, rfl⟩, ⟨hml, rfl⟩, fun a2 N1 hN1 _ N2 hN2 => hQ _ _ _ (by omega)⟩
 ·intro i x xs hat _ ih2 q N' hN'
  have hb := hat.b
  have hr := hat.r
  have hat2 : (w.map plN)[i]? = some (plN x) := by rw [List.getElem?_map, hat.g]; rfl
  have hml : ((w.map plN).take i).length = (((w.map plN).take i).map nbD).length := by simp
  have hsn : ((w.map plN).take i).map nbD ++ [D.ag [.lit (.string x.1), .lit (.int .i64 x.2.1)]] = ((w.map plN).take (i + 1)).map nbD := by rw [zY hat2, List.map_append]; rfl
  have hml2 : (((w.map plN).take (i + 1)).map nbD).length = ((w.map plN).take (i + 1)).length := by simp
  have hti : ((w.map plN).take (i + 1)).length ≤ i + 1 := by rw [List.length_take]; omega
  refine uD _ _ _ _ _ _ _ _ _ _ _ ?_
  rw [hat.lt, Int.toNat_natCast, hr]
  refine ⟨⟨by omega, by omega⟩, _, rfl, ⟨by omega, by omega⟩, _, rfl, ⟨hml, rfl⟩, by unfold zB; rw [hsn, hml2]; omega, fun c1 => ?_⟩
  rw [hsn, hml2, hat.w]
  exact ih2 _ _ hN'
theorem zIm (w : List Pl) (hw : w.length ≤ 1073741824) (p : Pl) (a : Option Addr) (c : Nat) (N : Nat) (Q : QT [.sl 3]) (hQ : ∀ a' c' N', N ≤ N' → Q a' ((w ++ [p]).map spB) c' N') :
  ACalls prog 157 [.sl 3] [.sv a 3 (w.map spB) c, .dg 3 (spB p)] N Q := by
 have e : ([] ++ w.map spB) ++ [spB p] = (w ++ [p]).map spB := by simp
 refine zEk N a _ c _ Q fun _ _ => ⟨⟨rfl, rfl⟩, by unfold zB; simp; omega, fun c1 => ⟨⟨rfl, rfl⟩, by unfold zB; simp; omega, fun c2 => ⟨⟨rfl, rfl⟩, ⟨rfl, rfl⟩, fun a2 N1 hN1 _ N2 hN2 => ?_⟩⟩⟩
 rw [e]
 exact hQ _ _ _ (by omega)
theorem zKi {t : Tm} {d : D} (hd : t.Is d) {w : List Pl} {g : List Tg} (h : SpC t w g) {es : List D} (ctx : Ctx g es) (hw : w.length + t.cnt ≤ 536870000) (a1 a2 : Option Addr) (c1 c2 : Nat) :
  Cop 115 9 [.dg 9 d, .sv a1 3 (w.map spB) c1, .sv a2 4 es c2] (zMH (tyZ t g 0) (t.ev (w.map plN))).Is := fun N Q hQ => by
 obtain ⟨u, hu⟩ := h.ty
 refine zDN N d a1 _ c1 a2 es c2 Q fun _ _ _ N1 hN1 => ?_
 refine tI t d hd g es a2 c2 0 h.pre ctx N1 _ fun x N2 hN2 hx _ _ N3 hN3 => ?_
 refine qf w (by omega) a1 c1 N3 _ fun a3 c3 N4 hN4 _ _ N5 hN5 => ?_
 refine zCj t d hd h.ok h.b g u hu _ h.fit a3 c3 (by simp; omega) N5 _ fun N6 hN6 _ N7 hN7 => ?_
 refine zAX hx _ N7 _ fun d' N8 hN8 hd' ho _ _ N9 hN9 => ?_
 exact hQ _ _ (by omega) hd' (ho.mono (by omega) hN9)
theorem zNH : ∀ (t : Tm) (d : D), t.Is d → ∀ (w : List Pl) (g : List Tg) (es : List D), SpC t w g → Ctx g es → w.length + t.cnt ≤ 536870000 → ∀ (a1 a2 : Option Addr) (c1 c2 : Nat),
  Cop 60 9 [.dg 9 d, .sv a1 3 (w.map spB) c1, .sv a2 4 es c2] (t.sp w g).Is := by
 refine Tm.ind fun k nm ot n0 ty re l ih d hd w g es hC ctx hc a1 a2 c1 c2 N Q hQ => ?_
 have hd0 := hd
 have hc0 := hc
 have node := za hC.ok
 have hB := hC.b
 simp only [Tm.isB, Bool.and_eq_true] at hB
 obtain ⟨t0, t1, r0, r1, a, fs, c, rfl, hh, hlen, hes⟩ := Tm.is_mk.1 hd
 simp only [Tm.cnt] at hc
 have p1 := ty.cnt_pos
 have p2 := re.cnt_pos
 have hgl := hC.pre.len
 simp only [Tm.cnt] at hgl
 -- the parts in a copy
 have copy : k ≠ 8 → (Tm.mk k nm ot n0 ty re l).sp w g = .mk k nm ot n0 ty re (xS l k nm w g) → ∀ N1, N ≤ N1 → ACalls prog 75 [.pk, .int .i64, .str, .str, .int .i64, .dc, .dc, .dc, .dc, .row 36 9] [.dg 9 (.ag [.lit (.int .i64 k), .lit (.string nm), .lit (.string ot), .lit (.int .i64 n0), t0, t1, r0, r1, .sl a 9 fs c])] N1
   (fun n s s1 n1 x x1 x2 x3 es1 c3 N2 => N1 ≤ N2 → Bel N2 (D.ag es1) → yK Q N a1 (w.map spB) c1 a2 es c2 0 (.ag [.lit (.int .i64 k), .lit (.string nm), .lit (.string ot), .lit (.int .i64 n0), t0, t1, r0, r1, .sl a 9 fs c]) 0 (bytes []) (bytes []) 0 0 none [] 0 0 none [] 0 none [] 0 n s s1 n1 x x1 x2 x3 es1.length c3 es1 c3 N2) := fun h8 he N1 hN1 => by
  refine zFb _ _ hd0 (by simp only [Tm.cnt]; omega) N1 _ ?_
  intro x4 x5 x6 x7 es' c' N2 hN2 hh' hes' ho' _ _
  have hl' := hes'.len
  have hof : OwnL N1 N2 ([x4, x5, x6, x7] ++ []) := by
   have hf : ∀ b, b ∈ zA ([x4, x5, x6, x7] ++ []) → b ∈ zA ([x4, x5, x6, x7] ++ es') := fun b hb => by
    rw [zC] at hb ⊢
    rcases List.mem_append.1 hb with hb | hb
    ·exact List.mem_append_left _ hb
    ·simp [zA] at hb
   have hn := ho'.nd
   rw [zC, List.nodup_append] at hn
   exact ⟨by simpa using hn.1, ⟨ho'.fl.1, ho'.fl.2.1, ho'.fl.2.2.1, ho'.fl.2.2.2.1, trivial⟩, fun b hb => ho'.lo b (hf b hb), fun b hb => ho'.hi b (hf b hb)⟩
  refine up hes hlen (fun i xs => ∀ (done rest : List D) (m q : Nat) (N' : Nat), N2 ≤ N' → All2 Tm.Is ((xS l k nm w g).take i) done → done.length = i → rest.length = xs.length → m = (done ++ rest).length → OwnL N1 N' ([x4, x5, x6, x7] ++ done) →
   yK Q N a1 (w.map spB) c1 a2 es c2 i (.ag [.lit (.int .i64 k), .lit (.string nm), .lit (.string ot), .lit (.int .i64 n0), t0, t1, r0, r1, .sl a 9 fs c]) 0 (bytes []) (bytes []) 0 0 none [] 0 0 none [] 0 none [] 0 k nm ot n0 x4 x5 x6 x7 m q (done ++ rest) q N') ?_ ?_ [] es' es'.length c' N2 (Nat.le_refl _) rfl rfl (by omega) rfl hof
  ·intro i hlt hi done rest m q N' hN' hd hdl hr hm ho
   have hr0 : rest = [] := List.eq_nil_of_length_eq_zero (by simpa using hr)
   subst hr0
   refine sD _ _ _ _ _ _ _ _ _ _ _ _ _ _ _ _ _ _ _ _ _ _ _ _ _ _ _ _ _ _ _ _ _ _ _ _ _ _ ⟨_, _, _, rfl, ?_⟩
   rw [List.append_nil] at hm ⊢
   rw [List.take_of_length_le (by rw [zCN]; have := hes.len; omega)] at hd
   rw [hlt]
   refine ⟨⟨hm, rfl⟩, ⟨hm, rfl⟩, ⟨hm, rfl⟩, fun a5 N3 hN3 hf N4 hN4 => ?_⟩
   refine hQ _ _ (by omega) (by rw [he]; exact Tm.is_mk.2 ⟨_, _, _, _, _, _, _, rfl, hh', by have := hes.len; omega, hd⟩) ?_
   exact wm (zE (zE (zE (zE ((zJb (hd := [x4, x5, x6, x7]) (ds := []) (ho.mono hN1 (Nat.le_refl _)) hf hN3).mono (Nat.le_refl _) hN4)))))
  ·intro i x xs hat _ ih2 done rest m q N' hN' hd hdl hr hm ho
   have hb := hat.b
   have hxc := zR hat.m
   cases rest with
   | nil => simp at hr
   | cons y rest =>
     subst hdl
     have hCx := hC.part hat.g
     have eW : wI k nm w done.length = w := by unfold wI; rw [if_neg h8]; simp
     have eG : gI k nm l g done.length = g := by unfold gI; rw [if_neg h8]; simp
     rw [eW, eG] at hCx
     have hlm : (done ++ y :: rest).length = done.length + rest.length + 1 := by simp; omega
     refine sD _ _ _ _ _ _ _ _ _ _ _ _ _ _ _ _ _ _ _ _ _ _ _ _ _ _ _ _ _ _ _ _ _ _ _ _ _ _ ⟨_, _, _, rfl, ?_⟩
     rw [hat.lt]
     simp only [Int.toNat_natCast]
     refine ⟨_, _, _, rfl, ⟨by omega, by omega⟩, fun N3 hN3 => ?_⟩
     refine ih x hat.m _ hat.r w g es hCx ctx (by omega) a1 a2 c1 c2 N3 _ fun d2 N4 hN4 hd2 ho2 _ _ => ⟨⟨by omega, by omega, by omega⟩, by omega, ?_⟩
     rw [hat.w, Nat.zero_add, zOo]
     have e : done ++ d2 :: rest = (done ++ [d2]) ++ rest := by simp
     rw [e]
     have hg := zCM l k nm w g _ x hat.g
     rw [eW, eG] at hg
     refine ih2 (done ++ [d2]) rest m q N4 (by omega) (by rw [zY hg]; exact hd.snoc hd2) (by simp) (by simpa using hr) (by rw [hm]; simp) ?_
     rw [← List.append_assoc]
     exact zW (ho.mono (Nat.le_refl _) hN3) (zN ho2) (by omega) hN4
 -- a let
 have letC : k = 8 → (Tm.mk k nm ot n0 ty re l).late (w.map plB) = true → ∀ N1, N ≤ N1 → ∀ Q' : QT [.ag 9], (∀ d' N2, N1 ≤ N2 → (∀ N3, N2 ≤ N3 → Q d' N3) → Q' d' N2) → ACalls prog 117 [.ag 9] [.dg 9 (.ag [.lit (.int .i64 k), .lit (.string nm), .lit (.string ot), .lit (.int .i64 n0), t0, t1, r0, r1, .sl a 9 fs c]), .sv a1 3 (w.map spB) c1, .sv a2 4 es c2] N1 Q' := fun h8 hlate N1 hN1 Q' hQ' => by
  subst h8
  have har := node.ar
  rw [show r8 8 nm = 2 from rfl] at har
  obtain ⟨x0, x1, d0, d1, rfl, rfl, h0, h1⟩ := vO hes har
  obtain ⟨rfl, rfl, rfl, rfl, _⟩ := zLV node (.inr rfl)
  simp only [zJ] at hc hgl
  obtain ⟨s0, s1, s2⟩ := hC.let_
  have m0 : x0 ∈ [x0, x1] := by simp
  have m1 : x1 ∈ [x0, x1] := by simp
  have q0 := x0.cnt3; have q1 := x1.cnt3
  obtain ⟨u0, hu0⟩ := s0.ty
  have ctx2 : ∀ (es' : List D), Ctx (g ++ [⟨nm, tyZ x0 g 0, 0⟩]) es' → Ctx (g ++ [⟨nm, tyZ x0 g 0, 0⟩]) es' := fun _ h => h
  refine zFa N1 _ a1 _ c1 a2 es c2 Q' fun _ _ _ => ⟨_, _, _, rfl, ⟨by decide, by simp⟩, fun N2 hN2 => ?_⟩
  refine tI x0 d0 h0 g es a2 c2 0 s0.pre ctx N2 _ fun x N3 hN3 hx _ _ => ⟨_, rfl, fun N4 hN4 => ?_⟩
  refine yq ctx (by omega) a2 c2 hh.nm hx 0 N4 _ fun a3 es3 c3 N5 hN5 ctx3 _ _ => ⟨_, _, _, rfl, ⟨by decide, by simp⟩, fun N6 hN6 => ?_⟩
  refine zEp w (by omega) a1 c1 N6 _ fun a4 c4 N7 hN7 _ _ N8 hN8 => ?_
  refine zDG x0 d0 h0 s0.ok _ a4 c4 (by simp; omega) N8 _ fun N9 hN9 _ => Br.not (fun hb => ⟨_, _, _, rfl, ⟨by decide, by simp⟩, fun N10 hN10 => ?_⟩) fun hb => ⟨_, rfl, _, _, _, rfl, ⟨by decide, by simp⟩, _, _, _, rfl, ⟨by decide, by simp⟩, _, rfl, fun N10 hN10 => ?_⟩
  ·refine qf w (by omega) a1 c1 N10 _ fun a5 c5 N11 hN11 _ _ N12 hN12 => ?_
   refine zCj x0 d0 h0 s0.ok s0.b g u0 hu0 _ s0.fit a5 c5 (by simp; omega) N12 _ fun N13 hN13 _ => ⟨_, _, _, rfl, ⟨by decide, by simp⟩, _, rfl, fun N14 hN14 => ?_⟩
   refine zIm w (by omega) (nm, x0.ev (w.map plN), false) a1 c1 N14 _ fun a6 c6 N15 hN15 _ _ N16 hN16 => ?_
   refine ih x1 m1 d1 h1 _ _ es3 s2 ctx3 (by simp; omega) a6 a3 c6 c3 N16 _ fun d' N17 hN17 hd' ho' _ _ N18 hN18 => ?_
   refine hQ' _ _ (by omega) fun N19 hN19 => hQ _ _ (by omega) ?_ (ho'.mono (by omega) (by omega))
   simp only [Tm.sp, hlate, Bool.true_eq_false, if_false]
   rw [if_neg (by simp), if_pos ⟨by trivial, hb⟩]
   simp only [zKw, zMl]
   exact hd'
  ·refine ih x0 m0 d0 h0 w g es s0 ctx (by omega) a1 a2 c1 c2 N10 _ fun e0 N11 hN11 he0 ho0 _ _ N12 hN12 => ?_
   refine zIm w (by omega) (nm, 0, true) a1 c1 N12 _ fun a6 c6 N13 hN13 _ _ N14 hN14 => ?_
   refine ih x1 m1 d1 h1 _ _ es3 s1 ctx3 (by simp; omega) a6 a3 c6 c3 N14 _ fun e1 N15 hN15 he1 ho1 _ _ N16 hN16 => ?_
   have k0 := zEr x0 w g
   have k1 := zEr x1 (w ++ [(nm, 0, true)]) (g ++ [⟨nm, tyZ x0 g 0, 0⟩])
   refine zOd nm hh.nm _ _ e0 e1 he0 he1 (by omega) (by omega) N16 _ fun d' N17 hN17 hd' ho' _ _ N18 hN18 => ?_
   refine hQ' _ _ (by omega) fun N19 hN19 => hQ _ _ (by omega) ?_ (ho'.mono (by omega) (by omega))
   simp only [Tm.sp, hlate, Bool.true_eq_false, if_false]
   rw [if_neg (by simp), if_neg (by simp [zCJ, hb])]
   simp only [xS, zBs, if_true]
   exact hd'
 refine zFQ N _ a1 _ c1 a2 es c2 Q fun _ _ _ N1 hN1 => ?_
 refine zEp w (by omega) a1 c1 N1 _ fun a4 c4 N2 hN2 _ _ N3 hN3 => ?_
 refine zDG _ _ hd0 hC.ok _ a4 c4 (by simp only [Tm.cnt, List.length_map]; omega) N3 _ fun N4 hN4 _ => Br.not (fun hb N5 hN5 => ?_) fun hb => ⟨_, rfl, Br.beq (fun h5 => ?_) fun h5 => ⟨_, rfl, Br.beq (fun h8 N5 hN5 => ?_) fun h8 N5 hN5 => ?_⟩⟩
 ·refine zKi hd0 hC ctx hc0 a1 a2 c1 c2 N5 _ fun d' N6 hN6 hd' ho' _ _ N7 hN7 => ?_
  refine hQ _ _ (by omega) ?_ (ho'.mono (by omega) hN7)
  simp only [Tm.sp, hb, if_true]
  exact hd'
 ·subst h5
  have har := node.ar
  rw [show r8 5 nm = 3 from rfl] at har
  obtain ⟨x0, x1, x2, d0, d1, d2, rfl, rfl, h0, h1, h2⟩ := tF hes har
  simp only [zJ] at hc hgl
  have m0 : x0 ∈ [x0, x1, x2] := by simp
  have m1 : x1 ∈ [x0, x1, x2] := by simp
  have m2 : x2 ∈ [x0, x1, x2] := by simp
  have s0 := hC.flat (.inr rfl) m0
  obtain ⟨u0, hu0⟩ := s0.ty
  have hcond := hC.cond
  refine ⟨_, _, _, rfl, ⟨by decide, by simp⟩, fun N5 hN5 => ?_⟩
  refine zDG x0 d0 h0 s0.ok _ a4 c4 (by simp; omega) N5 _ fun N6 hN6 _ => Br.not (fun hb0 => ⟨_, _, _, rfl, _, _, _, rfl, ⟨by decide, by simp⟩, fun N7 hN7 => ?_⟩) fun hb0 => ⟨_, rfl, Br.beq (fun h => absurd h (by decide)) fun _ N7 hN7 => ?_⟩
  ·have he : (Tm.mk 5 nm ot n0 ty re [x0, x1, x2]).sp w g = zMl [x0, x1, x2] (2 - x0.ev (w.map plN)).toNat w g := by
    simp only [Tm.sp, hb, Bool.true_eq_false, if_false]
    rw [if_pos ⟨by trivial, hb0⟩]
    simp only [zIw]
   rw [he] at hQ
   refine qf w (by omega) a1 c1 N7 _ fun a5 c5 N8 hN8 _ _ N9 hN9 => ?_
   refine zCj x0 d0 h0 s0.ok s0.b g u0 hu0 _ s0.fit a5 c5 (by simp; omega) N9 _ fun N10 hN10 _ => ?_
   rcases hcond with hv | hv
   ·rw [hv] at hQ ⊢
    rw [show IntKind.i64.wrap (2 - 0) = 2 from rfl]
    refine ⟨⟨by decide, by simp⟩, fun N11 hN11 => ?_⟩
    refine ih x2 m2 d2 h2 w g es (hC.flat (.inr rfl) m2) ctx (by omega) a1 a2 c1 c2 N11 _ fun d' N12 hN12 hd' ho' _ _ N13 hN13 => ?_
    exact hQ _ _ (by omega) hd' (ho'.mono (by omega) hN13)
   ·rw [hv] at hQ ⊢
    rw [show IntKind.i64.wrap (2 - 1) = 1 from rfl]
    refine ⟨⟨by decide, by simp⟩, fun N11 hN11 => ?_⟩
    refine ih x1 m1 d1 h1 w g es (hC.flat (.inr rfl) m1) ctx (by omega) a1 a2 c1 c2 N11 _ fun d' N12 hN12 hd' ho' _ _ N13 hN13 => ?_
    exact hQ _ _ (by omega) hd' (ho'.mono (by omega) hN13)
  ·exact copy (by decide) (by simp only [Tm.sp, hb, Bool.true_eq_false, if_false]; rw [if_neg (by simp [zCJ, hb0]), if_neg (by simp)]) N7 (by omega)
 ·exact letC h8 hb N5 (by omega) _ fun d' N6 hN6 hq _ _ N7 hN7 => hq N7 hN7
 ·exact copy h8 (by simp only [Tm.sp, hb, Bool.true_eq_false, if_false]; rw [if_neg (by simp [h5]), if_neg (by simp [h8])]) N5 (by omega)
end Go.Proofs.YtfkmegifjiiclaaGreat

/- What is left of a body: the program. -/
set_option linter.unusedVariables false
set_option linter.unusedSimpArgs false
namespace Go.Proofs.YtfkmegifjiiclaaGreat
open Go Go.Proofs Go.Proofs.Tryz Go.IntWalk

theorem zMT (t : Ty) (n : Int) : Cop 119 9 [.int .i64 n, .bool (t.k == 2)] (zMH t n).Is := fun N Q hQ => by
 refine zD0 N n _ Q (Br.beq (fun h N1 hN1 => ?_) fun h N2 hN2 => ?_)
 ·rw [zOH h] at hQ
  exact hQ _ _ hN1 (zKA _ _) (zCA _ _)
 ·rw [zOB h] at hQ
  exact zHL N2 n _ fun N3 hN3 _ _ N4 hN4 => hQ _ _ (by omega) (zKA _ _) (zCA _ _)
theorem zMz {a : Option Addr} {z c : Nat} {es : List D} {b : Nat} (h : b ∈ zA es) : b ∈ (D.sl a z es c).foot := by
 cases a with
 | none => simpa only [D.foot] using h
 | some ad =>
   have hne : es ≠ [] := fun h0 => by subst h0; simp [zA] at h
   simp [D.foot, hne, h]
theorem zHn {g : List Tg} {es : List D} (ctx : Ctx g es) {k : Int} {nm ot : ByteArray} {n0 : Int} {t0 t1 r0 r1 : D} {a1 : Option Addr} {fs : List D} {c1 : Nat} (hnm : nm.size ≤ 4611686018427387904) {x0 : Tm} (hp : Pre g x0 0) (hx : x0.Is (fs.getD 0 default)) (hf : 0 < fs.length) (a : Option Addr) (c : Nat) (N : Nat) (Q : QT [.sl 4])
  (hQ : ∀ a' es' c' N', N ≤ N' → Ctx (g ++ [⟨nm, tyZ x0 g 0, 0⟩]) es' → Q a' es' c' N') : ACalls prog 121 [.sl 4] [.sv a 4 es c, .dg 9 (.ag [.lit (.int .i64 k), .lit (.string nm), .lit (.string ot), .lit (.int .i64 n0), t0, t1, r0, r1, .sl a1 9 fs c1])] N Q := by
 have hgl := hp.len
 have hxp := x0.cnt_pos
 refine zDu N a es c _ Q fun _ _ => ⟨_, rfl, _, _, _, rfl, ⟨by decide, by omega⟩, fun N1 hN1 => ?_⟩
 refine zI0 x0 _ hx g es a c 0 hp ctx N1 _ fun x N2 hN2 hx' _ _ _ => ⟨⟨rfl, rfl⟩, fun a2 hap hoff N3 hN3 hbel => ?_⟩
 have hh : Ctx [⟨nm, tyZ x0 g 0, 0⟩] [D.ag [.lit (.string nm), x.cell 0, x.cell 1, .lit (.int .i64 0)]] := ⟨by simp, _, [], rfl, ⟨_, _, rfl, hnm, Ty.is_cells hx'⟩, rfl⟩
 refine zKO ctx hh (by simp; omega) a a2 c 1 N3 _ fun a3 es3 c3 N4 hN4 hctx hft _ => ⟨fun b hb ad had hc => ?_, fun _ N5 hN5 => hQ _ _ _ _ (by omega) hctx⟩
 simp only [List.mem_singleton] at hb
 subst hb
 rcases hft _ hc with h | h | h
 ·exact hoff _ (by simp) ad had (zMz h)
 ·obtain ⟨d, hd, hm⟩ := zI.1 h
  exact hap ad had d hd hm
 ·have := hbel _ (by simp) ad had; omega
theorem zLU {k : Int} {nm : ByteArray} {w : List Pl} {i : Nat} {b : Bool} (h : k = 8 → b = true) : vT k nm b w i = wI k nm w i := by
 unfold vT wI
 by_cases hi : i = 0
 ·simp [hi]
 ·by_cases hk : k = 8
  ·simp [hi, hk, h hk]
  ·simp [hi, hk]
theorem zLn : ∀ (t : Tm) (d : D), t.Is d → ∀ (w : List Pl) (g : List Tg) (es : List D), SpC t w g → Ctx g es → w.length + t.cnt ≤ 536870000 → ∀ (a1 a2 : Option Addr) (c1 c2 : Nat),
  Cop 63 9 [.sv a1 3 (w.map plD) c1, .sv a2 4 es c2, .dg 9 d] (t.sp w g).Is := by
 refine Tm.ind fun k nm ot n0 ty re l ih d hd w g es hC ctx hc a1 a2 c1 c2 N Q hQ => ?_
 have hd0 := hd
 have hc0 := hc
 have node := za hC.ok
 have hB := hC.b
 simp only [Tm.isB, Bool.and_eq_true] at hB
 obtain ⟨t0, t1, r0, r1, a, fs, c, rfl, hh, hlen, hes⟩ := Tm.is_mk.1 hd
 simp only [Tm.cnt] at hc
 have p1 := ty.cnt_pos
 have p2 := re.cnt_pos
 have hl := hes.len
 have hlc := yT l
 have har := node.ar
 obtain ⟨u, hu⟩ := hC.ty
 -- the first part, where there is one
 have hfirst : l ≠ [] → wS 102 [.sv a1 3 (w.map plD) c1, .dg 9 (fs.getD 0 default)] (zCJ l (w.map plB)) := fun hne => by
  cases l with
  | nil => exact absurd rfl hne
  | cons x0 rest =>
    have m0 : x0 ∈ x0 :: rest := by simp
    have := zR m0
    exact zDf x0 _ (hes.get (i := 0) rfl) (node.sub x0 m0) w a1 c1 (by omega)
 have hne2 : l ≠ [] → fs ≠ [] := fun hne h => by rw [h] at hl; exact hne (List.eq_nil_of_length_eq_zero (by simpa using hl.symm))
 -- the parts, one behind another
 have loop : (Tm.mk k nm ot n0 ty re l).sp w g = .mk k nm ot n0 ty re (xS l k nm w g) → (k = 8 → zCJ l (w.map plB) = true) → ∀ N1, N ≤ N1 →
   zD Q N a1 (w.map plD) c1 a2 es c2 0 0 a fs c (fs.length : Int) 0 (.ag [.lit (.int .i64 k), .lit (.string nm), .lit (.string ot), .lit (.int .i64 n0), t0, t1, r0, r1, .sl a 9 fs c]) 0 (bytes []) (bytes []) 0 0 none [] 0 0 none [] 0 none [] 0 [] 0 N1 := fun he h8 N1 hN1 => by
  refine up hes hlen (fun i xs => ∀ (done : List D) (q N' : Nat), N ≤ N' → All2 Tm.Is ((xS l k nm w g).take i) done → done.length = i → OwnL N N' done →
   zD Q N a1 (w.map plD) c1 a2 es c2 done.length q a fs c (fs.length : Int) i (.ag [.lit (.int .i64 k), .lit (.string nm), .lit (.string ot), .lit (.int .i64 n0), t0, t1, r0, r1, .sl a 9 fs c]) 0 (bytes []) (bytes []) 0 0 none [] 0 0 none [] 0 none [] 0 done q N') ?_ ?_ [] 0 N1 hN1 rfl rfl tP
  ·intro i hlt hi done q N' hN' hd hdl ho
   refine xo _ _ _ _ _ _ _ _ _ _ _ _ _ _ _ _ _ _ _ _ _ _ _ _ _ _ _ _ _ _ _ _ _ _ ?_
   rw [List.take_of_length_le (by rw [zCN]; omega)] at hd
   rw [hlt]
   refine ⟨⟨rfl, rfl⟩, ⟨rfl, rfl⟩, fun a5 N3 hN3 hf N4 hN4 => ?_⟩
   refine zOG hh (by omega) (by omega) hd (by omega) a5 q N N4 (by omega) ((uS ho hf hN3).mono (Nat.le_refl _) hN4) _ fun d' N5 hN5 hd' ho' _ _ N6 hN6 => ?_
   exact hQ _ _ (by omega) (by rw [he]; exact hd') (ho'.mono (Nat.le_refl _) hN6)
  ·intro i x xs hat _ ih2 done q N' hN' hd hdl ho
   have hb := hat.b
   have hxc := zR hat.m
   have hne : l ≠ [] := fun h => by have := hat.m; rw [h] at this; simp at this
   have hCx := hC.part hat.g
   have hwl : (wI k nm w i).length ≤ w.length + 1 := by unfold wI; (repeat' split) <;> simp
   have ins : zP6 106 [.sv a1 3 (w.map plD) c1, .dg 9 (.ag [.lit (.int .i64 k), .lit (.string nm), .lit (.string ot), .lit (.int .i64 n0), t0, t1, r0, r1, .sl a 9 fs c]), .int .i64 i] (wI k nm w i) := by
    have := zJ5 (k := k) (nm := nm) (ot := ot) (n0 := n0) (t0 := t0) (t1 := t1) (r0 := r0) (r1 := r1) (a1 := a) (es := fs) (c1 := c) w (by omega) a1 c1 i (zCJ l (w.map plB)) (fun _ => hne2 hne) (fun _ => hfirst hne)
    rwa [zLU h8] at this
   have call : ∀ (a6 : Option Addr) (c6 : Nat) (a7 : Option Addr) (es7 : List D) (c7 : Nat), Ctx (gI k nm l g i) es7 → Cop 63 9 [.sv a6 3 ((wI k nm w i).map plD) c6, .sv a7 4 es7 c7, .dg 9 (fs.getD i default)] (x.sp (wI k nm w i) (gI k nm l g i)).Is := fun a6 c6 a7 es7 c7 hctx =>
    ih x hat.m _ hat.r _ _ es7 hCx hctx (by omega) a6 a7 c6 c7
   have next : ∀ (d2 : D) (N6 N7 : Nat), N' ≤ N6 → N6 ≤ N7 → (x.sp (wI k nm w i) (gI k nm l g i)).Is d2 → Own N6 N7 d2 → (done.length = done.length ∧ q = q) ∧ zB done [d2] 136 ∧ ∀ (c4 : Nat),
     zD Q N a1 (w.map plD) c1 a2 es c2 (done ++ [d2]).length c4 a fs c (fs.length : Int) (IntKind.i64.wrap ((i : Int) + 1)) (.ag [.lit (.int .i64 k), .lit (.string nm), .lit (.string ot), .lit (.int .i64 n0), t0, t1, r0, r1, .sl a 9 fs c]) 0 (bytes []) (bytes []) 0 0 none [] 0 0 none [] 0 none [] 0 (done ++ [d2]) c4 N7 := fun d2 N6 N7 h6 h7 hd2 ho2 => by
    refine ⟨⟨rfl, rfl⟩, by unfold zB; rw [List.length_append]; simp only [List.length_cons, List.length_nil]; omega, fun c4 => ?_⟩
    rw [hat.w]
    exact ih2 _ _ _ (by omega) (by rw [zY (zCM l k nm w g i x hat.g)]; exact hd.snoc hd2) (by simp [hdl]) (zW (ho.mono (Nat.le_refl _) h6) (zN ho2) (by omega) h7)
   refine xo _ _ _ _ _ _ _ _ _ _ _ _ _ _ _ _ _ _ _ _ _ _ _ _ _ _ _ _ _ _ _ _ _ _ ?_
   rw [hat.lt, Int.toNat_natCast]
   have plain : gI k nm l g i = g → ∀ N3, N' ≤ N3 → ACalls prog 106 [.sl 3] [.sv a1 3 (w.map plD) c1, .dg 9 (.ag [.lit (.int .i64 k), .lit (.string nm), .lit (.string ot), .lit (.int .i64 n0), t0, t1, r0, r1, .sl a 9 fs c]), .int .i64 i] N3 fun a3 es3 c3 N4 => N3 ≤ N4 → Bel N4 (D.sl a3 3 es3 c3) → ∀ N5, N4 ≤ N5 → ACalls prog 63 [.ag 9] [.sv a3 3 es3 c3, .sv a2 4 es c2, .dg 9 (fs.getD i default)] N5 fun x1 N6 => N5 ≤ N6 → Bel N6 x1 → (done.length = done.length ∧ q = q) ∧ zB done [x1] 136 ∧ ∀ (c4 : Nat),
     zD Q N a1 (w.map plD) c1 a2 es c2 (done ++ [x1]).length c4 a fs c (fs.length : Int) (IntKind.i64.wrap ((i : Int) + 1)) (.ag [.lit (.int .i64 k), .lit (.string nm), .lit (.string ot), .lit (.int .i64 n0), t0, t1, r0, r1, .sl a 9 fs c]) 0 (bytes []) (bytes []) 0 0 none [] 0 0 none [] 0 none [] 0 (done ++ [x1]) c4 N6 := fun hg N3 hN3 =>
    ins N3 _ fun a3 c3 N4 hN4 _ _ N5 hN5 => call a3 c3 a2 es c2 (by rw [hg]; exact ctx) N5 _ fun d2 N6 hN6 hd2 ho2 _ _ => next d2 N5 N6 (by omega) hN6 hd2 ho2
   refine ⟨⟨by omega, by omega⟩, _, rfl, Br.beq (fun hk => Br.beq (fun hi1 N3 hN3 => ?_) fun hi1 N3 hN3 => ?_) fun hk N3 hN3 => ?_⟩
   ·subst hk
    rw [show r8 8 nm = 2 from rfl] at har
    obtain ⟨x0, x1, d0, d1, rfl, rfl, h0, h1⟩ := vO hes har
    have eG : gI 8 nm [x0, x1] g i = g ++ [⟨nm, tyZ x0 g 0, 0⟩] := by unfold gI; rw [if_neg (by omega)]; rfl
    refine zHn (fs := [d0, d1]) ctx hh.nm hC.let_.1.pre h0 (by simp) a2 c2 N3 _ fun a7 es7 c7 N4 hN4 hctx7 _ _ N5 hN5 => ?_
    exact ins N5 _ fun a3 c3 N6 hN6 _ _ N7 hN7 => call a3 c3 a7 es7 c7 (by rw [eG]; exact hctx7) N7 _ fun d2 N8 hN8 hd2 ho2 _ _ => next d2 N7 N8 (by omega) hN8 hd2 ho2
   ·refine plain ?_ N3 hN3
    have hi0 : i = 0 := by
     subst hk
     rw [show r8 8 nm = 2 from rfl] at har
     omega
    unfold gI; rw [if_pos hi0]
   ·refine plain ?_ N3 hN3
    unfold gI; rw [if_neg hk]; simp
 have hdyn := fun (N1 : Nat) (Q' : QT [.bool]) => zDf _ _ hd0 hC.ok w a1 c1 (by simp only [Tm.cnt]; omega) N1 Q'
 refine s4 N a1 _ c1 a2 es c2 _ Q fun _ _ _ N1 hN1 => ?_
 refine hdyn N1 _ fun N2 hN2 _ => Br.not (fun hb N3 hN3 => ?_) fun hb => ⟨_, rfl, Br.beq (fun hk N3 hN3 => ?_) fun hk => ⟨_, rfl, Br.beq (fun h5 => ?_) fun h5 => ⟨_, rfl, Br.beq (fun h8 => ?_) fun h8 => ⟨_, _, _, rfl, ?_⟩⟩⟩⟩
 ·refine zJR _ _ hd0 hC.ok hC.b g u hu w hC.fit a1 c1 (by simp only [Tm.cnt]; omega) N3 _ fun N4 hN4 _ N5 hN5 => ?_
  refine zI0 _ _ hd0 g es a2 c2 0 hC.pre ctx N5 _ fun x N6 hN6 hx _ _ _ => ?_
  have hval : (Tm.mk k nm ot n0 ty re l).sp w g = zMH (tyZ (.mk k nm ot n0 ty re l) g 0) ((Tm.mk k nm ot n0 ty re l).ev (w.map plN)) := by simp only [Tm.sp, hb, if_true]
  rw [hval] at hQ
  generalize tyZ (.mk k nm ot n0 ty re l) g 0 = tt at hx hQ
  obtain ⟨kk, lt⟩ := tt
  obtain ⟨aT, esT, cT, rfl, _, _⟩ := Ty.is_mk.1 hx
  refine ⟨_, rfl, fun N7 hN7 => ?_⟩
  refine zMT (.mk kk lt) _ N7 _ fun d' N8 hN8 hd' ho' _ _ N9 hN9 => ?_
  exact hQ _ _ (by omega) hd' (ho'.mono (by omega) hN9)
 ·refine zMh _ _ hd0 (by simp only [Tm.cnt]; omega) N3 _ fun d' N4 hN4 hd' ho' _ _ N5 hN5 => ?_
  refine hQ _ _ (by omega) ?_ (ho'.mono (by omega) hN5)
  subst hk
  rw [show r8 1 nm = 0 from rfl] at har
  have hl0 : l = [] := List.eq_nil_of_length_eq_zero (by omega)
  subst hl0
  simp only [Tm.sp, hb, Bool.true_eq_false, if_false]
  rw [if_neg (by simp), if_neg (by simp)]
  simp only [xS]
  exact hd'
 ·subst h5
  rw [show r8 5 nm = 3 from rfl] at har
  obtain ⟨x0, x1, x2, d0, d1, d2, rfl, rfl, h0, h1, h2⟩ := tF hes har
  simp only [zJ] at hc
  have m0 : x0 ∈ [x0, x1, x2] := by simp
  have m1 : x1 ∈ [x0, x1, x2] := by simp
  have m2 : x2 ∈ [x0, x1, x2] := by simp
  have s0 := hC.flat (.inr rfl) m0
  obtain ⟨u0, hu0⟩ := s0.ty
  have hcond := hC.cond
  refine ⟨_, _, _, rfl, ⟨by decide, by simp⟩, fun N3 hN3 => ?_⟩
  refine hfirst (by simp) N3 _ fun N4 hN4 _ => Br.not (fun hb0 => ⟨_, _, _, rfl, _, _, _, rfl, ⟨by decide, by simp⟩, fun N5 hN5 => ?_⟩) fun hb0 => ⟨_, rfl, Br.beq (fun h => absurd h (by decide)) fun _ => ⟨_, _, _, rfl, ?_⟩⟩
  ·have he : (Tm.mk 5 nm ot n0 ty re [x0, x1, x2]).sp w g = zMl [x0, x1, x2] (2 - x0.ev (w.map plN)).toNat w g := by
    simp only [Tm.sp, hb, Bool.true_eq_false, if_false]
    rw [if_pos ⟨by trivial, hb0⟩]
    simp only [zIw]
   rw [he] at hQ
   refine zJR x0 d0 h0 s0.ok s0.b g u0 hu0 w s0.fit a1 c1 (by omega) N5 _ fun N6 hN6 _ => ?_
   rcases hcond with hv | hv
   ·rw [hv] at hQ ⊢
    rw [show IntKind.i64.wrap (2 - 0) = 2 from rfl]
    refine ⟨⟨by decide, by simp⟩, fun N7 hN7 => ?_⟩
    refine ih x2 m2 d2 h2 w g es (hC.flat (.inr rfl) m2) ctx (by omega) a1 a2 c1 c2 N7 _ fun d' N8 hN8 hd' ho' _ _ N9 hN9 => ?_
    exact hQ _ _ (by omega) hd' (ho'.mono (by omega) hN9)
   ·rw [hv] at hQ ⊢
    rw [show IntKind.i64.wrap (2 - 1) = 1 from rfl]
    refine ⟨⟨by decide, by simp⟩, fun N7 hN7 => ?_⟩
    refine ih x1 m1 d1 h1 w g es (hC.flat (.inr rfl) m1) ctx (by omega) a1 a2 c1 c2 N7 _ fun d' N8 hN8 hd' ho' _ _ N9 hN9 => ?_
    exact hQ _ _ (by omega) hd' (ho'.mono (by omega) hN9)
  ·exact loop (by simp only [Tm.sp, hb, Bool.true_eq_false, if_false]; rw [if_neg (by simp [hb0]), if_neg (by simp)]) (fun h => absurd h (by decide)) N4 (by omega)
 ·subst h8
  rw [show r8 8 nm = 2 from rfl] at har
  obtain ⟨x0, x1, d0, d1, rfl, rfl, h0, h1⟩ := vO hes har
  simp only [zJ] at hc
  have m1 : x1 ∈ [x0, x1] := by simp
  obtain ⟨s0, s1, s2⟩ := hC.let_
  obtain ⟨u0, hu0⟩ := s0.ty
  have q0 := x0.cnt3
  refine ⟨_, _, _, rfl, ⟨by decide, by simp⟩, fun N3 hN3 => ?_⟩
  refine hfirst (by simp) N3 _ fun N4 hN4 _ => Br.not (fun hb0 => ⟨_, rfl, _, _, _, rfl, ⟨by decide, by simp⟩, fun N5 hN5 => ?_⟩) fun hb0 => ⟨_, _, _, rfl, ?_⟩
  ·refine zJR x0 d0 h0 s0.ok s0.b g u0 hu0 w s0.fit a1 c1 (by omega) N5 _ fun N6 hN6 _ => ⟨_, _, _, rfl, ⟨by decide, by simp⟩, fun N7 hN7 => ?_⟩
   refine zLl w (by omega) (nm, x0.ev (w.map plN), false) a1 c1 N7 _ fun a6 c6 N8 hN8 _ _ _ N9 hN9 => ?_
   refine zHn (fs := [d0, d1]) ctx hh.nm s0.pre h0 (by simp) a2 c2 N9 _ fun a7 es7 c7 N10 hN10 hctx7 _ _ N11 hN11 => ?_
   refine ih x1 m1 d1 h1 _ _ es7 s2 hctx7 (by simp; omega) a6 a7 c6 c7 N11 _ fun d' N12 hN12 hd' ho' _ _ N13 hN13 => ?_
   refine hQ _ _ (by omega) ?_ (ho'.mono (by omega) hN13)
   simp only [Tm.sp, hb, Bool.true_eq_false, if_false]
   rw [if_neg (by simp), if_pos ⟨by trivial, hb0⟩]
   simp only [zKw, zMl]
   exact hd'
  ·exact loop (by simp only [Tm.sp, hb, Bool.true_eq_false, if_false]; rw [if_neg (by simp), if_neg (by simp [hb0])]) (fun _ => hb0) N4 (by omega)
 ·exact loop (by simp only [Tm.sp, hb, Bool.true_eq_false, if_false]; rw [if_neg (by simp [h5]), if_neg (by simp [h8])]) (fun h => absurd h h8) N2 (by omega)
end Go.Proofs.YtfkmegifjiiclaaGreat

/- Parameters split; Specialize: the reference and the program. -/
set_option linter.unusedVariables false
set_option linter.unusedSimpArgs false
namespace Go.Proofs.YtfkmegifjiiclaaGreat
open Go Go.Proofs Go.Proofs.Tryz Go.IntWalk

def qL (g : List Pm) : List Pm := g.filter fun p => !p.dy
def sC (g : List Pm) : List Pm := g.filter fun p => p.dy
theorem q5 (g : List Pm) : (qL g).length ≤ g.length := List.length_filter_le _ _
theorem wX (g : List Pm) : (sC g).length ≤ g.length := List.length_filter_le _ _
theorem pL {g : List Pm} {x : Pm} : qL (g ++ [x]) = if x.dy then qL g else qL g ++ [x] := by
 unfold qL; rw [List.filter_append]; cases h : x.dy <;> simp [h]
theorem tO {g : List Pm} {x : Pm} : sC (g ++ [x]) = if x.dy then sC g ++ [x] else sC g := by
 unfold sC; rw [List.filter_append]; cases h : x.dy <;> simp [h]
theorem uO {g : List Pm} {es : List D} (h : Pms g es) (hg : g.length ≤ 1073741824) (hc : ∀ x ∈ g, x.ty.cnt ≤ 1073741824) (a : Option Addr) (c : Nat) (N : Nat) (Q : QT [.sl 4, .sl 4])
  (hQ : ∀ a1 es1 c1 a2 es2 c2 N', N ≤ N' → Pms (qL g) es1 → Pms (sC g) es2 → Q a1 es1 c1 a2 es2 c2 N') : ACalls prog 54 [.sl 4, .sl 4] [.sv a 4 es c] N Q := by
 have hl := h.all.len
 refine qt N a es c Q fun _ => ?_
 refine up h.all h.len (fun i xs => ∀ (d1 d2 : List D) (q1 q2 N' : Nat), N ≤ N' → All2 Pm.Is (qL (g.take i)) d1 → All2 Pm.Is (sC (g.take i)) d2 → z9 Q N a es c d1.length q1 d2.length q2 i d1 q1 d2 q2 N') ?_ ?_ [] [] 0 0 N (Nat.le_refl _) rfl rfl
 ·intro i hlt hi d1 d2 q1 q2 N' hN' h1 h2
  refine vE _ _ _ _ _ _ _ _ _ _ _ _ _ _ _ ?_
  rw [List.take_of_length_le (by omega)] at h1 h2
  have k1 := h1.len; have k2 := h2.len
  have n1 := q5 g; have n2 := wX g
  rw [hlt]
  exact ⟨⟨rfl, rfl⟩, ⟨rfl, rfl⟩, ⟨rfl, rfl⟩, fun a1 N1 hN1 _ => ⟨⟨rfl, rfl⟩, ⟨rfl, rfl⟩, ⟨rfl, rfl⟩, fun a2 N2 hN2 _ N3 hN3 => hQ _ _ _ _ _ _ _ (by omega) ⟨by omega, h1⟩ ⟨by omega, h2⟩⟩⟩
 ·intro i x xs hat _ ih2 d1 d2 q1 q2 N' hN' h1 h2
  have hb := hat.b
  obtain ⟨t0, t1, hd', hnm, hty⟩ := hat.r
  have k1 := h1.len; have k2 := h2.len
  have n1 := q5 (g.take i); have n2 := wX (g.take i)
  rw [List.length_take] at n1 n2
  refine vE _ _ _ _ _ _ _ _ _ _ _ _ _ _ _ ?_
  rw [hat.lt, Int.toNat_natCast, hd', hat.w]
  refine ⟨⟨by omega, by omega⟩, _, rfl, ⟨by omega, by omega⟩, ⟨by omega, by omega⟩, _, rfl, fun N1 hN1 => ?_⟩
  refine zU x.ty _ hty (hc x hat.m) N1 _ fun x' N2 hN2 hx hox _ _ => Br.of (fun hdy => ?_) fun hdy => ?_
  ·refine ⟨⟨rfl, rfl⟩, by unfold zB; rw [List.length_append]; simp only [List.length_cons, List.length_nil]; omega, fun c1 => ?_⟩
   refine ih2 _ _ _ _ _ (by omega) ?_ ?_
   ·rw [zY hat.g, pL, if_pos hdy]; exact h1
   ·rw [zY hat.g, tO, if_pos hdy]; exact h2.snoc ⟨_, _, rfl, hnm, Ty.is_cells hx⟩
  ·refine ⟨⟨rfl, rfl⟩, by unfold zB; rw [List.length_append]; simp only [List.length_cons, List.length_nil]; omega, fun c1 => ?_⟩
   refine ih2 _ _ _ _ _ (by omega) ?_ ?_
   ·rw [zY hat.g, pL, if_neg (by simp [hdy])]; exact h1.snoc ⟨_, _, rfl, hnm, Ty.is_cells hx⟩
   ·rw [zY hat.g, tO, if_neg (by simp [hdy])]; exact h2
theorem uR {g : List Pm} {es : List D} (h : Pms g es) (hg : g.length ≤ 1073741824) (hc : ∀ x ∈ g, x.ty.cnt ≤ 1073741824) (a : Option Addr) (c : Nat) (N : Nat) (Q : QT [.sl 4, .sl 4])
  (hQ : ∀ a1 es1 c1 a2 es2 c2 N', N ≤ N' → Pms (qL g) es1 → Pms (sC g) es2 → Q a1 es1 c1 a2 es2 c2 N') : ACalls prog 56 [.sl 4, .sl 4] [.sv a 4 es c] N Q := by
 have hl := h.all.len
 refine qz N a es c Q fun _ => ?_
 refine up h.all h.len (fun i xs => ∀ (d1 d2 : List D) (q1 q2 N' : Nat), N ≤ N' → All2 Pm.Is (qL (g.take i)) d1 → All2 Pm.Is (sC (g.take i)) d2 → z6 Q N d1.length q1 d2.length q2 a es c es.length i d1 q1 d2 q2 N') ?_ ?_ [] [] 0 0 N (Nat.le_refl _) rfl rfl
 ·intro i hlt hi d1 d2 q1 q2 N' hN' h1 h2
  refine w8 _ _ _ _ _ _ _ _ _ _ _ _ _ _ _ _ ?_
  rw [List.take_of_length_le (by omega)] at h1 h2
  have k1 := h1.len; have k2 := h2.len
  have n1 := q5 g; have n2 := wX g
  rw [hlt]
  exact ⟨⟨rfl, rfl⟩, ⟨rfl, rfl⟩, ⟨rfl, rfl⟩, fun a1 N1 hN1 _ => ⟨⟨rfl, rfl⟩, ⟨rfl, rfl⟩, ⟨rfl, rfl⟩, fun a2 N2 hN2 _ N3 hN3 => hQ _ _ _ _ _ _ _ (by omega) ⟨by omega, h1⟩ ⟨by omega, h2⟩⟩⟩
 ·intro i x xs hat _ ih2 d1 d2 q1 q2 N' hN' h1 h2
  have hb := hat.b
  obtain ⟨t0, t1, hd', hnm, hty⟩ := hat.r
  have k1 := h1.len; have k2 := h2.len
  have n1 := q5 (g.take i); have n2 := wX (g.take i)
  rw [List.length_take] at n1 n2
  refine w8 _ _ _ _ _ _ _ _ _ _ _ _ _ _ _ _ ?_
  rw [hat.lt, Int.toNat_natCast, hd', hat.w]
  refine ⟨⟨by omega, by omega⟩, _, rfl, _, rfl, fun N1 hN1 => ?_⟩
  refine zDb x.ty _ hty (hc x hat.m) N1 _ fun x' N2 hN2 hx hox _ _ => ⟨_, rfl, Br.of (fun hdy => ?_) fun hdy => ?_⟩
  ·refine ⟨⟨rfl, rfl⟩, by unfold zB; rw [List.length_append]; simp only [List.length_cons, List.length_nil]; omega, fun c1 => ?_⟩
   refine ih2 _ _ _ _ _ (by omega) ?_ ?_
   ·rw [zY hat.g, pL, if_pos hdy]; exact h1
   ·rw [zY hat.g, tO, if_pos hdy]; exact h2.snoc ⟨_, _, rfl, hnm, Ty.is_cells hx⟩
  ·refine ⟨⟨rfl, rfl⟩, by unfold zB; rw [List.length_append]; simp only [List.length_cons, List.length_nil]; omega, fun c1 => ?_⟩
   refine ih2 _ _ _ _ _ (by omega) ?_ ?_
   ·rw [zY hat.g, pL, if_neg (by simp [hdy])]; exact h1.snoc ⟨_, _, rfl, hnm, Ty.is_cells hx⟩
   ·rw [zY hat.g, tO, if_neg (by simp [hdy])]; exact h2
/-- the places of parameters, those that are not late with arguments -/
def qi : List Pm → List Int → List Pl
 | [], _ => []
 | p :: g, ns => if p.dy then (p.nm, 0, true) :: qi g ns else (p.nm, ns.headD 0, false) :: qi g ns.tail
theorem zGp : ∀ (g : List Pm) (ns : List Int), (qi g ns).length = g.length
 | [], _ => rfl
 | p :: g, ns => by simp only [qi]; split <;> simp [zGp g]
theorem zHS (ms : List Int) : List.drop 1 (List.take (((zM ms).length : Int)).toNat (zM ms)) = zM ms.tail := by
 rw [Int.toNat_natCast, List.take_length]
 cases ms <;> rfl
theorem zOt {g : List Pm} {es : List D} (h : Pms g es) (hg : g.length ≤ 1073741824) (ns : List Int) (hn : ns.length ≤ 1073741824) (a a1 : Option Addr) (c c1 : Nat) : zP6 46 [.sv a 4 es c, .sv a1 0 (zM ns) c1] (qi g ns) := fun N Q hQ => by
 have hl := h.all.len
 refine zHW N a es c a1 _ c1 Q fun _ _ => ?_
 have key := up h.all h.len (fun i xs => (i = 0 → xs = g → ∀ (N' : Nat), N ≤ N' → uW Q N a1 (zM ns) c1 0 0 a es c es.length i [] 0 N') ∧
  (0 < i → ∀ (done : List Pl) (ms : List Int) (a1 a5 : Option Addr) (c1 c5 : Nat) (N' : Nat), N ≤ N' → done ++ qi xs ms = qi g ns → done.length = i → ms.length ≤ 1073741824 → zK Q N a1 (zM ms) c1 a5 (done.map plD) c5 a es c es.length i N'))
  (fun i hlt hi => ⟨fun h0 hx N' hN' => ?_, fun h0 done ms a1 a5 c1 c5 N' hN' hp hdl hm => ?_⟩) (fun i x xs hat _ ih2 => ⟨fun h0 hx N' hN' => ?_, fun h0 done ms a1 a5 c1 c5 N' hN' hp hdl hm => ?_⟩)
 ·exact key.1 rfl rfl N (Nat.le_refl _)
 ·refine r7 _ _ _ _ _ _ _ _ _ _ _ _ _ _ _ ?_
  subst hx
  rw [hlt]
  exact ⟨⟨rfl, rfl⟩, ⟨rfl, rfl⟩, ⟨rfl, rfl⟩, fun a6 N1 hN1 _ N2 hN2 => hQ _ _ _ (by omega)⟩
 ·refine uu _ _ _ _ _ _ _ _ _ _ _ _ _ _ ?_
  simp only [qi, List.append_nil] at hp
  rw [hlt, hp]
  exact fun N1 hN1 => hQ _ _ _ (by omega)
 ·have hb := hat.b
  obtain ⟨t0, t1, hd', hnm, hty⟩ := hat.r
  subst h0; subst hx
  refine r7 _ _ _ _ _ _ _ _ _ _ _ _ _ _ _ ?_
  rw [hat.lt, Int.toNat_natCast, hd', hat.w]
  have step : ∀ (p : Pl) (ms : List Int), [p] ++ qi xs ms = qi (x :: xs) ns → ms.length ≤ 1073741824 → ∀ (a1 : Option Addr) (c1 : Nat) (a2 : Option Addr), ∀ N1, N' ≤ N1 → rY N1 [a2] → ACalls prog 101 [.sl 3] [.sv a2 3 [] 0, .dg 3 (plD p)] N1
    fun a3 es3 c3 N2 => N1 ≤ N2 → Off [a2] (D.sl a3 3 es3 c3) ∧ (Bel N2 (D.sl a3 3 es3 c3) → zK Q N a1 (zM ms) c1 a3 es3 c3 a es c es.length ((0 + 1 : Nat) : Int) N2) := fun p ms hp hm a1 c1 a2 N1 hN1 hbel => by
   refine zLl [] (by simp) p a2 0 N1 _ fun a3 c3 N2 hN2 own _ => ⟨zKF hbel own (Nat.le_refl _), fun _ => ?_⟩
   exact ih2.2 (by omega) [p] ms a1 a3 c1 c3 N2 (by omega) hp rfl hm
  refine ⟨⟨by omega, by omega⟩, _, rfl, _, rfl, _, rfl, Br.not (fun hdy => Br.dec (fun hpos => ?_) fun hpos => ⟨⟨rfl, rfl⟩, fun a2 _ N1 hN1 hbel => ?_⟩) fun hdy => ⟨⟨rfl, rfl⟩, fun a2 _ N1 hN1 hbel => ?_⟩⟩
  ·cases ns with
   | nil => simp [zM] at hpos
   | cons m ms =>
     refine ⟨⟨by omega, hpos⟩, _, rfl, ⟨by omega, by omega, Int.le_refl _⟩, ⟨rfl, rfl⟩, fun a2 _ N1 hN1 hbel => ?_⟩
     rw [zHS]
     exact step (x.nm, m, x.dy) ms (by simp [qi, hdy]) (by simp at hn; omega) _ _ a2 N1 hN1 hbel
  ·have hns : ns = [] := List.eq_nil_of_length_eq_zero (by simp [zM] at hpos; simpa using hpos)
   subst hns
   exact step (x.nm, 0, x.dy) [] (by simp [qi, hdy]) (by simp) _ _ a2 N1 hN1 hbel
  ·exact step (x.nm, 0, x.dy) ns (by simp [qi, hdy]) hn _ _ a2 N1 hN1 hbel
 ·have hb := hat.b
  obtain ⟨t0, t1, hd', hnm, hty⟩ := hat.r
  refine uu _ _ _ _ _ _ _ _ _ _ _ _ _ _ ?_
  rw [hat.lt, Int.toNat_natCast, hd', hat.w]
  have step : ∀ (p : Pl) (ms2 : List Int), p :: qi xs ms2 = qi (x :: xs) ms → ms2.length ≤ 1073741824 → ∀ (a1 : Option Addr) (c1 : Nat), ∀ N1, N' ≤ N1 → ACalls prog 101 [.sl 3] [.sv a5 3 (done.map plD) c5, .dg 3 (plD p)] N1
    fun a3 es3 c3 N2 => N1 ≤ N2 → Bel N2 (D.sl a3 3 es3 c3) → zK Q N a1 (zM ms2) c1 a3 es3 c3 a es c es.length ((i + 1 : Nat) : Int) N2 := fun p ms2 hp2 hm2 a1 c1 N1 hN1 => by
   refine zLl done (by omega) p a5 c5 N1 _ fun a3 c3 N2 hN2 own _ _ => ?_
   exact ih2.2 (by omega) (done ++ [p]) ms2 a1 a3 c1 c3 N2 (by omega) (by rw [← hp, ← hp2]; simp) (by simp [hdl]) hm2
  refine ⟨⟨by omega, by omega⟩, _, rfl, _, rfl, _, rfl, Br.not (fun hdy => Br.dec (fun hpos => ?_) fun hpos N1 hN1 => ?_) fun hdy N1 hN1 => ?_⟩
  ·cases ms with
   | nil => simp [zM] at hpos
   | cons m ms =>
     refine ⟨⟨by omega, hpos⟩, _, rfl, ⟨by omega, by omega, Int.le_refl _⟩, fun N1 hN1 => ?_⟩
     rw [zHS]
     exact step (x.nm, m, x.dy) ms (by simp [qi, hdy]) (by simp at hm; omega) _ _ N1 hN1
  ·have hns : ms = [] := List.eq_nil_of_length_eq_zero (by simp [zM] at hpos; simpa using hpos)
   subst hns
   exact step (x.nm, 0, x.dy) [] (by simp [qi, hdy]) (by simp) _ _ N1 hN1
  ·exact step (x.nm, 0, x.dy) ms (by simp [qi, hdy]) hm _ _ N1 hN1
theorem Fit.cons {v : List Nb} {g : List Tg} (h : Fit v g) {x : Tg} {y : Nb} (h1 : x.nm = y.1) (h2 : zBj x.ty y.2 = true) : Fit (y :: v) (x :: g) := by
 refine ⟨by simp [h.len], fun i a b ha hb => ?_⟩
 cases i with
 | zero => simp at ha hb; subst ha; subst hb; exact ⟨h1, h2⟩
 | succ i => exact h.at_ i a b (by simpa using ha) (by simpa using hb)
theorem zGM : ∀ (g : List Pm) (ns : List Int), ns.length = (qL g).length → u7 (qL g) ns = true → Fit ((qi g ns).map plN) (xw g)
 | [], ns, _, _ => ⟨rfl, fun i a b ha => by simp [xw] at ha⟩
 | p :: g, ns, hl, hf => by
   simp only [qi]
   cases hdy : p.dy with
   | true =>
     have e : qL (p :: g) = qL g := by simp [qL, hdy]
     rw [e] at hl hf
     have ih := zGM g ns hl hf
     simp only [if_true, List.map_cons]
     exact ih.cons (x := ⟨p.nm, p.ty, 0⟩) (y := (p.nm, 0)) rfl (zHx _)
   | false =>
     have e : qL (p :: g) = p :: qL g := by simp [qL, hdy]
     rw [e] at hl hf
     cases ns with
     | nil => simp at hl
     | cons m ms =>
       simp only [u7, Bool.and_eq_true] at hf
       have ih := zGM g ms (by simpa using hl) hf.2
       simp only [Bool.false_eq_true, if_false, List.map_cons, List.headD_cons, List.tail_cons]
       exact ih.cons (x := ⟨p.nm, p.ty, 0⟩) (y := (p.nm, m)) rfl hf.1
/-- what is left of a body, or none -/
def yS (g : List Pm) (e : Tm) (ns : List Int) : Option Tm := if (y5 g e).isSome = true ∧ ns.length = (qL g).length ∧ u7 (qL g) ns = true then some (e.sp (qi g ns) (xw g)) else none
theorem qW (g : List Pm) (e : Tm) (ns : List Int) : ((yS g e ns).getD (Tm.nod 0 [])).cnt ≤ e.cnt + 3 := by
 unfold yS
 split
 ·have := zEr e (qi g ns) (xw g); simp only [Option.getD_some]; omega
 ·simp only [Option.getD_none, zF6, zJ]; omega
def zPz (f : FuncId) (args : List PV) (o : Option Tm) : Prop := ∀ (N : Nat) (Q : QT [.ag 9, .bool]), (∀ d' N', N ≤ N' → (o.getD (Tm.nod 0 [])).Is d' → Own N N' d' → Q d' o.isSome N') → ACalls prog f [.ag 9, .bool] args N Q
theorem zJ2 {g : List Pm} {e : Tm} {ns : List Int} (hb : (y5 g e).isSome = true) (hl : ns.length = (qL g).length) (hf : u7 (qL g) ns = true) (hc : e.cnt ≤ 536870000) : SpC e (qi g ns) (xw g) := by
 obtain ⟨hp, hv, hB⟩ := zCo hb
 exact ⟨zQC hv, hB, zKM hp hv hB hc, zJU hb, zGM g ns hl hf⟩
theorem zAq {g : List Pm} {es : List D} (h : Pms g es) (hg : g.length ≤ 1073741) (hcg : ∀ x ∈ g, x.ty.cnt ≤ 1073741824) {e : Tm} {d : D} (he : e.Is d) (hc : e.cnt ≤ 250000000) (ns : List Int) (hn : ns.length ≤ 1073741824) (a a2 : Option Addr) (c c2 : Nat) :
  zPz 24 [.sv a 4 es c, .dg 9 d, .sv a2 0 (zM ns) c2] (yS g e ns) := fun N Q hQ => by
 have hl := h.all.len
 have hnl := we ns
 have no : yS g e ns = none → ∀ N', N ≤ N' → Q (D.ag [D.lit (.int .i64 0), D.lit (.string (bytes [])), D.lit (.string (bytes [])), D.lit (.int .i64 0), D.lit (.int .i64 0), D.sl none 2 [] 0, D.lit (.int .i64 0), D.sl none 2 [] 0, D.sl none 9 [] 0]) false N' := fun h N' hN' => by
  rw [h] at hQ
  exact hQ _ _ hN' (zJt rfl (by simp)) (zCE 0)
 refine zA7 N a es c d a2 _ c2 Q fun _ _ _ N1 hN1 => ?_
 refine zCu h (by omega) he (by omega) a c N1 _ fun x N2 hN2 _ _ _ N3 hN3 => ?_
 refine uO h (by omega) hcg a c N3 _ fun a3 es3 c3 a4 es4 c4 N4 hN4 h3 h4 _ _ _ => Br.not (fun hb N5 hN5 => ?_) fun hb => Br.bne (fun hne N5 hN5 => ?_) fun heq => ?_
 ·exact no (by unfold yS; rw [if_neg (by simp [hb])]) _ (by omega)
 ·have := h3.all.len
  exact no (by unfold yS; rw [if_neg (by intro ⟨_, h, _⟩; omega)]) _ (by omega)
 ·have h3l := h3.all.len
  have hnn : ns.length = (qL g).length := by omega
  refine up h.all h.len (fun i xs => ∀ (done : List Pl) (j : Nat) (q N' : Nat), N ≤ N' → j ≤ ns.length → (ns.drop j).length = (qL xs).length → done.length = i → u7 (qL g) ns = u7 (qL xs) (ns.drop j) → done ++ qi xs (ns.drop j) = qi g ns →
   yE Q N a es c a2 (zM ns) c2 done.length q j i d 0 (bytes []) (bytes []) 0 0 none [] 0 0 none [] 0 none [] 0 (done.map spB) q N') ?_ ?_ [] 0 0 N4 (by omega) (by omega) hnn rfl rfl rfl
  ·intro i hlt hi done j q N' hN' hj hjl hdl hfa hpl
   refine vR _ _ _ _ _ _ _ _ _ _ _ _ _ _ _ _ _ _ _ _ _ _ _ _ _ _ _ _ _ _ _ ?_
   rw [hlt]
   intro N5 hN5
   refine qk h (by omega) a c N5 _ fun a6 es6 c6 N6 hN6 hctx _ _ => ⟨⟨by simp, rfl⟩, fun a7 _ _ _ N7 hN7 hbel => ?_⟩
   simp only [qi, List.append_nil] at hpl
   have hfit : u7 (qL g) ns = true := by rw [hfa]; rfl
   have hsp : yS g e ns = some (e.sp (qi g ns) (xw g)) := by unfold yS; rw [if_pos ⟨hb, hnn, hfit⟩]
   rw [hsp] at hQ
   rw [hpl]
   refine zNH e d he _ _ es6 (zJ2 hb hnn hfit (by omega)) hctx (by rw [zGp]; omega) a7 a6 q c6 N7 _ fun d' N8 hN8 hd' ho' _ => ⟨tu hbel ho', fun _ N9 hN9 => ?_⟩
   exact hQ _ _ (by omega) hd' (ho'.mono (by omega) hN9)
  ·intro i x xs hat _ ih2 done j q N' hN' hj hjl hdl hfa hpl
   have hb2 := hat.b
   obtain ⟨t0, t1, hd', hnm, hty⟩ := hat.r
   have hml : done.length = (done.map spB).length := by simp
   have hap : ∀ p : Pl, zB (done.map spB) [spB p] 32 := fun p => by unfold zB; rw [List.length_append]; simp only [List.length_map, List.length_cons, List.length_nil]; omega
   refine vR _ _ _ _ _ _ _ _ _ _ _ _ _ _ _ _ _ _ _ _ _ _ _ _ _ _ _ _ _ _ _ ?_
   rw [hat.lt, Int.toNat_natCast, hd', hat.w, Int.toNat_natCast]
   refine ⟨⟨by omega, by omega⟩, _, rfl, ⟨by omega, by omega⟩, _, rfl, Br.not (fun hdy => ?_) fun hdy => ⟨⟨hml, rfl⟩, ?_, fun c5 => ?_⟩⟩
   ·have e1 : qL (x :: xs) = x :: qL xs := by simp [qL, hdy]
    rw [e1] at hjl hfa
    rw [List.length_drop] at hjl
    simp only [List.length_cons] at hjl
    have hjlt : j < ns.length := by omega
    have hdr : ns.drop j = ns[j] :: ns.drop (j + 1) := by rw [List.getElem_cons_drop]
    have hng := zIu (List.getElem?_eq_getElem hjlt)
    rw [hdr] at hfa hpl
    simp only [u7] at hfa
    simp only [qi, hdy, Bool.false_eq_true, if_false, List.headD_cons, List.tail_cons] at hpl
    refine ⟨⟨by omega, by omega⟩, ⟨by omega, by rw [hnl]; omega⟩, _, hng, fun N1 hN1 => ?_⟩
    refine zEE hty _ N1 _ fun N2 hN2 _ => Br.not (fun hx N3 hN3 => ?_) fun hx => ⟨⟨by omega, by rw [hnl]; omega⟩, _, hng, ⟨hml, rfl⟩, ?_, fun c5 => ?_⟩
    ·refine no ?_ _ (by omega)
     unfold yS
     rw [if_neg]
     intro ⟨_, _, hff⟩
     rw [hfa, hx] at hff
     simp at hff
    ·have := hap (x.nm, ns[j], false)
     simp only [spB] at this
     rw [hdy]; exact this
    ·have e2 : done.map spB ++ [D.ag [D.lit (.string x.nm), D.lit (.bool x.dy), D.lit (.int .i64 ns[j])]] = (done ++ [(x.nm, ns[j], false)]).map spB := by rw [hdy]; simp [spB]
     have e3 : IntKind.i64.wrap ((j : Int) + 1) = ((j + 1 : Nat) : Int) := by rw [i64_in _ (by omega)]; simp
     rw [e2, e3, List.length_map]
     refine ih2 _ (j + 1) _ _ (by omega) (by omega) ?_ (by simp [hdl]) ?_ (by rw [← hpl]; simp)
     ·rw [List.length_drop]; omega
     ·rw [hfa, hx, Bool.true_and]
   ·have := hap (x.nm, 0, true)
    simp only [spB] at this
    rw [hdy]; exact this
   ·have e2 : done.map spB ++ [D.ag [D.lit (.string x.nm), D.lit (.bool x.dy), D.lit (.int .i64 0)]] = (done ++ [(x.nm, 0, true)]).map spB := by rw [hdy]; simp [spB]
    have e1 : qL (x :: xs) = qL xs := by simp [qL, hdy]
    rw [e1] at hjl hfa
    simp only [qi, hdy, if_true] at hpl
    rw [e2, List.length_map]
    exact ih2 _ j _ _ (by omega) hj hjl (by simp [hdl]) hfa (by rw [← hpl]; simp)
theorem zAn {g : List Pm} {es : List D} (h : Pms g es) (hg : g.length ≤ 1073741) (hcg : ∀ x ∈ g, x.ty.cnt ≤ 1073741824) {e : Tm} {d : D} (he : e.Is d) (hc : e.cnt ≤ 250000000) (ns : List Int) (hn : ns.length ≤ 1073741824) (a a2 : Option Addr) (c c2 : Nat) :
  zPz 25 [.sv a 4 es c, .dg 9 d, .sv a2 0 (zM ns) c2] (yS g e ns) := fun N Q hQ => by
 have hl := h.all.len
 have hnl := we ns
 have no : yS g e ns = none → ∀ N', N ≤ N' → Q (D.ag [D.lit (.int .i64 0), D.lit (.string (bytes [])), D.lit (.string (bytes [])), D.lit (.int .i64 0), D.lit (.int .i64 0), D.sl none 2 [] 0, D.lit (.int .i64 0), D.sl none 2 [] 0, D.sl none 9 [] 0]) false N' := fun h N' hN' => by
  rw [h] at hQ
  exact hQ _ _ hN' (zJt rfl (by simp)) (zCE 0)
 refine zA8 N a es c d a2 _ c2 Q fun _ _ _ N1 hN1 => ?_
 refine uR h (by omega) hcg a c N1 _ fun a3 es3 c3 a4 es4 c4 N2 hN2 h3 h4 _ _ _ N3 hN3 => ?_
 refine zCh h (by omega) hcg he (by omega) a c N3 _ fun x N4 hN4 _ _ _ _ => Br.not (fun hb N5 hN5 => ?_) fun hb N5 hN5 => ?_
 ·exact no (by unfold yS; rw [if_neg (by simp [hb])]) _ (by omega)
 ·have n1 := q5 g
  refine zDl h3 (by omega) ns hn a3 a2 c3 c2 N5 _ fun N6 hN6 _ => Br.not (fun hx N7 hN7 => ?_) fun hx => ?_
  ·refine no ?_ _ (by omega)
   unfold yS
   rw [if_neg]
   intro ⟨_, h8, h9⟩
   rw [h9, decide_eq_true h8] at hx
   simp at hx
  ·simp only [Bool.and_eq_true, decide_eq_true_eq] at hx
   obtain ⟨hnn, hfit⟩ := hx
   have hsp : yS g e ns = some (e.sp (qi g ns) (xw g)) := by unfold yS; rw [if_pos ⟨hb, hnn, hfit⟩]
   rw [hsp] at hQ
   refine up h.all h.len (fun i xs => ∀ (done : List D) (q N' : Nat), N ≤ N' → All2 Tg.Is ((xw g).take i) done → done.length = i →
    yu Q N a es c a2 (zM ns) c2 done.length q a es c es.length i d 0 (bytes []) (bytes []) 0 0 none [] 0 0 none [] 0 none [] 0 done q N') ?_ ?_ [] 0 N6 (by omega) rfl rfl
   ·intro i hlt hi done q N' hN' hd hdl
    refine vS _ _ _ _ _ _ _ _ _ _ _ _ _ _ _ _ _ _ _ _ _ _ _ _ _ _ _ _ _ _ _ _ _ _ ?_
    rw [List.take_of_length_le (by rw [sw]; omega)] at hd
    rw [hlt]
    intro N7 hN7
    refine zOt h (by omega) ns hn a a2 c c2 N7 _ fun a6 c6 N8 hN8 _ _ => ⟨⟨rfl, rfl⟩, fun a7 _ _ _ N9 hN9 hbel => ?_⟩
    refine zLn e d he _ _ done (zJ2 hb hnn hfit (by omega)) ⟨by omega, hd⟩ (by rw [zGp]; omega) a6 a7 c6 q N9 _ fun d' N10 hN10 hd' ho' _ => ⟨tu hbel ho', fun _ N11 hN11 => ?_⟩
    exact hQ _ _ (by omega) hd' (ho'.mono (by omega) hN11)
   ·intro i x xs hat _ ih2 done q N' hN' hd hdl
    have hb2 := hat.b
    obtain ⟨t0, t1, hd', hnm, hty⟩ := hat.r
    have hat2 : (xw g)[i]? = some ⟨x.nm, x.ty, 0⟩ := by rw [xw, List.getElem?_map, hat.g]; rfl
    refine vS _ _ _ _ _ _ _ _ _ _ _ _ _ _ _ _ _ _ _ _ _ _ _ _ _ _ _ _ _ _ _ _ _ _ ?_
    rw [hat.lt, Int.toNat_natCast, hd', hat.w]
    refine ⟨⟨by omega, by omega⟩, _, rfl, ⟨rfl, rfl⟩, by unfold zB; rw [List.length_append]; simp only [List.length_cons, List.length_nil]; omega, fun c5 => ?_⟩
    exact ih2 _ _ _ hN' (by rw [zY hat2]; exact hd.snoc ⟨_, _, rfl, hnm, hty⟩) (by simp [hdl])
end Go.Proofs.YtfkmegifjiiclaaGreat
