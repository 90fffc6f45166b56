/- slices.Backward over parameters. -/
import Derived.RangeFuncNested
import Derived.RangeFuncBound
import Derived.RangeFuncCalls
import Derived.RangeFuncLeaves
import Derived.Shelf.Abstract
import Derived.WalkKit
import Derived.OwnWalkIn
import Derived.TacticsInMore
import Derived.LoopNIn
import Derived.LoopIn
import Derived.Test.YtfkmegifjiiclaaGreatProg
import Derived.Test.YtfkmegifjiiclaaGreatWs
import Derived.Test.YtfkmegifjiiclaaGreatWx
import Derived.Test.YtfkmegifjiiclaaGreatWr
import Derived.Deep.MidRow
set_option linter.unusedVariables false
set_option linter.unusedSimpArgs false
namespace Go.Proofs.YtfkmegifjiiclaaGreat
open Go Go.Proofs Go.RowKit Go.Shelf
attribute [local go_sem] Oper.semAt_some

set_option maxRecDepth 100000 in
set_option maxHeartbeats 2000000 in
theorem zOg (F : Fence) (n : Nat) (h8 : F.fn 163) (hro : F.round = none) (hn : 1 ≤ n) (l Bs b off len cap : Nat) (a : Option Addr) (ha : 0 < len → a = some ⟨b, off, none⟩) (f : Nat → ByteArray × Int × (Option Addr × Nat × Nat) × Bool) (hreach : len * 24 ≤ 140737488351232) (J Jx : Nat → World → Prop)
  (hJ : ∀ i W, J i W → W.cell? ⟨Bs, 0, none⟩ = some (.slice a len cap) ∧ ∀ j, j < len → W.cell? ⟨b, off + j * 4, none⟩ = some (.string (f j).1) ∧ W.cell? ⟨b, off + j * 4 + 1, none⟩ = some (.int .i64 (f j).2.1) ∧ W.cell? ⟨b, off + j * 4 + 2, none⟩ = some (.slice (f j).2.2.1.1 (f j).2.2.1.2.1 (f j).2.2.1.2.2) ∧ W.cell? ⟨b, off + j * 4 + 3, none⟩ = some (.bool (f j).2.2.2))
  (hY : ∀ i W, i < len → J i W → YieldAt F (n - 1) Tryz.prog l #[.int .i64 ((len - 1 - i : Nat) : Int), .agg #[.string (f (len - 1 - i)).1, .int .i64 (f (len - 1 - i)).2.1, .slice (f (len - 1 - i)).2.2.1.1 (f (len - 1 - i)).2.2.1.2.1 (f (len - 1 - i)).2.2.1.2.2, .bool (f (len - 1 - i)).2.2.2]] W fun e W' =>
   (e = .returned (.bool true) ∧ J (i + 1) W') ∨ (e = .returned (.bool false) ∧ Jx (i + 1) W'))
  (W : World) (h0 : J 0 W) :
  CallsIn F n Tryz.prog 163 #[.func (.yield l) #[] #[], .pointer (some ⟨Bs, 0, none⟩)] W fun e W' => (∃ v, e = .returned v) ∧ (J len W' ∨ ∃ k, k ≤ len ∧ Jx k W') := by
 have hBs := (hJ 0 W h0).1
 refine callsIn_of_wp Tryz.func163 rfl h8 ?_ hro
 simp only [Tryz.ntmps163, List.size_toArray, List.length_cons, List.length_nil, Nat.reduceAdd, Nat.reduceSub, Array.replicate_succ, Array.replicate_zero, List.push_toArray, List.append_toArray, List.nil_append, List.cons_append]
 gi_wp2
 gi_loopw [3] (fun i wr => ∃ k : Nat, k ≤ len ∧ i = .int .i64 ((len : Int) - 1 - k) ∧ J k wr)
  (fun i _ => (intOf i + 1).toNat)
 case atStart => exact ⟨0, Nat.zero_le _, by simp, h0⟩
 case round =>
  obtain ⟨k, hk, rfl, hJs⟩ := hrel
  by_cases hlt : k < len
  ·obtain rfl := ha (by omega)
   obtain ⟨fn, tmps, assign, body, hy, hR⟩ := hY k wr hlt hJs
   obtain ⟨hB2, hc⟩ := hJ k wr hJs
   obtain ⟨h1, h2, h3, h4⟩ := hc (len - 1 - k) (by omega)
   have hnn : (0 : Int) ≤ (len : Int) - 1 - k := by omega
   have e1 : ((len : Int) - 1 - k).toNat = len - 1 - k := by omega
   have e2 : ((len - 1 - k : Nat) : Int) = (len : Int) - 1 - k := by omega
   rw [e2] at hy
   gi_wp2
   refine hR.mono ?_
   rintro e W3 (⟨rfl, hJ3⟩ | ⟨rfl, hJx3⟩)
   ·gi_wp2
    go_roundw
    case rel => exact ⟨k + 1, by omega, by simp; omega, hJ3⟩
    case measure => simp [intOf]; omega
   ·gi_wp2
    refine bodyPost_ret (results_none rfl _ _ _) rfl ?_
    exact ⟨⟨_, rfl⟩, .inr ⟨k + 1, by omega, hJx3⟩⟩
  ·obtain rfl : k = len := by omega
   gi_wp2
   go_end0
   exact ⟨⟨_, rfl⟩, .inl hJs⟩

/-- slices.Backward itself -/
theorem zPM (F : Fence) (n : Nat) (h : F.fn 123) (hro : F.round = none) (a : Option Addr) (len cap : Nat) (W : World) :
  CallsIn F n Tryz.prog 123 #[.slice a len cap] W fun e W' => e = .returned (.func (.func 163) #[] #[.pointer (some ⟨W.heap.size, 0, none⟩)]) ∧ W' = W.alloc (.cells #[.slice a len cap] 38 (0, 0)) := by
 refine callsIn_of_wp Tryz.func123 rfl h ?_ hro
 simp only [Tryz.ntmps123, List.size_toArray, List.length_cons, List.length_nil, Nat.reduceAdd, Nat.reduceSub, Array.replicate_succ, Array.replicate_zero, List.push_toArray, List.append_toArray, List.nil_append, List.cons_append]
 gi_wp2
 go_ret
 exact ⟨rfl, rfl⟩

end Go.Proofs.YtfkmegifjiiclaaGreat

/- Functions of parameters: the reference, and one lambda of the program. -/
set_option linter.unusedVariables false
set_option linter.unusedSimpArgs false
namespace Go.Proofs.YtfkmegifjiiclaaGreat
open Go Go.Proofs Go.Proofs.Tryz Go.IntWalk

def zPA (nm : ByteArray) (ty : Ty) (t : Tm) : Tm := .mk 6 nm (bytes []) 0 ty (.mk 0 []) [t]
def ro : List Pm → Tm → Tm
 | [], e => e
 | p :: g, e => zPA p.nm p.ty (ro g e)
def pmW : List Pm → Nat
 | [] => 0
 | p :: g => 2 + p.ty.cnt + pmW g
theorem zNT (nm : ByteArray) (ty : Ty) (t : Tm) : (zPA nm ty t).cnt = 2 + ty.cnt + t.cnt := by simp only [zPA, Tm.cnt, Ty.cnt, zH, zJ]; omega
theorem zDJ : ∀ (g : List Pm) (e : Tm), (ro g e).cnt = pmW g + e.cnt
 | [], e => by simp [ro, pmW]
 | p :: g, e => by simp only [ro, pmW, zNT, zDJ g e]; omega
theorem zJx : ∀ (g : List Pm) (i : Nat), pmW (g.drop i) ≤ pmW g
 | [], i => by simp
 | p :: g, 0 => by simp
 | p :: g, i + 1 => by simp only [List.drop_succ_cons, pmW]; have := zJx g i; omega
theorem zJg : ∀ {g : List Pm} {p : Pm}, p ∈ g → p.ty.cnt ≤ pmW g
 | q :: g, p, h => by
   simp only [pmW]
   rcases List.mem_cons.1 h with rfl | h
   ·omega
   ·have := zJg h; omega
theorem zIz {N N' : Nat} {us vs : List D} (h : OwnL N N' (us ++ vs)) : OwnL N N' vs := by
 have hn := h.nd
 rw [zC, List.nodup_append] at hn
 exact ⟨hn.2.1, (rI h.fl).2, fun b hb => h.lo b (by rw [zC]; exact List.mem_append_right _ hb), fun b hb => h.hi b (by rw [zC]; exact List.mem_append_right _ hb)⟩
theorem zMa {N N' : Nat} {x0 x1 : D} {v : Value} {es : List D} (h : OwnL N N' (x0 :: x1 :: es)) : OwnL N N' (x0 :: x1 :: .lit v :: .sl none 2 [] 0 :: es) :=
 ⟨by simpa only [zA, D.foot, List.nil_append] using h.nd, ⟨h.fl.1, h.fl.2.1, trivial, ⟨by simp, trivial⟩, h.fl.2.2⟩, by simpa only [zA, D.foot, List.nil_append] using h.lo, by simpa only [zA, D.foot, List.nil_append] using h.hi⟩
theorem zOV {s : ByteArray} (hs : s.size ≤ 4611686018427387904) {ty : Ty} {x1 : D} (h1 : ty.Is x1) (hc1 : ty.cnt ≤ 1073741824) {t : Tm} {x2 : D} (h2 : t.Is x2) (hc2 : t.cnt ≤ 1073741824) : Cop 122 9 [.str s, .dg 2 x1, .dg 9 x2] (zPA s ty t).Is := fun N Q hQ => by
 refine zIO N s x1 x2 Q fun _ _ => ⟨⟨rfl, rfl⟩, fun a _ N1 hN1 hbel => ?_⟩
 refine zKH 6 (zGq h2) (by simp) (by simpa using hc2) a 1 N1 _ fun x N2 hN2 hx ho _ => ⟨tu hbel ho, fun _ N3 hN3 => ?_⟩
 refine zU ty x1 h1 hc1 N3 _ fun x' N4 hN4 hx' ho' _ _ N5 hN5 => ?_
 obtain ⟨t0, t1, r0, r1, a', es, c, rfl, hh, hlen, hes⟩ := Tm.is_mk.1 hx
 refine hQ _ _ (by omega) (Tm.is_mk.2 ⟨_, _, _, _, _, _, _, rfl, ⟨hs, hh.ot, Ty.is_cells hx', hh.re⟩, hlen, hes⟩) ?_
 have hr : OwnL N1 N2 [r0, r1, .sl a' 9 es c] := by
  have : OwnL N1 N2 [.lit (.int .i64 6), .lit (.string (bytes [])), .lit (.string (bytes [])), .lit (.int .i64 0), t0, t1, r0, r1, .sl a' 9 es c] := ⟨by have := ho.nd; simpa only [D.foot] using this, ho.fl, by have := ho.lo; simpa only [D.foot] using this, by have := ho.hi; simpa only [D.foot] using this⟩
  exact zIz (us := [.lit (.int .i64 6), .lit (.string (bytes [])), .lit (.string (bytes [])), .lit (.int .i64 0), t0, t1]) this
 have hc := (wE hx' ho').mono (Nat.le_refl _) hN5
 exact wm (zE (zE (zE (zE (sX hc (hr.mono hN1 hN3) (by omega) (by omega))))))
theorem zFM {g : List Pm} {i : Nat} {p : Pm} (e : Tm) (h : g[i]? = some p) : ro (g.drop i) e = zPA p.nm p.ty (ro (g.drop (i + 1)) e) := by
 have hlt : i < g.length := (List.getElem?_eq_some_iff.1 h).1
 rw [List.drop_eq_getElem_cons hlt]
 have : g[i] = p := by rw [List.getElem?_eq_getElem hlt] at h; exact Option.some.inj h
 rw [this]; rfl
theorem zAM {g : List Pm} {es : List D} (h : Pms g es) (hg : g.length ≤ 1073741824) (hW : pmW g ≤ 536870000) {t : Tm} {d : D} (ht : t.Is d) (hc : t.cnt ≤ 536870000) (a : Option Addr) (c : Nat) : Cop 64 9 [.sv a 4 es c, .dg 9 d] (ro g t).Is := fun N Q hQ => by
 have hl := h.all.len
 refine zAg N a es c d Q fun _ _ N1 hN1 => ?_
 refine zFb t d ht (by omega) N1 _ ?_
 obtain ⟨k, nm, ot, n0, ty, re, l⟩ := t
 intro x4 x5 x6 x7 es' c' N2 hN2 hh' hes' ho' _ _
 have hl' := hes'.len
 have hlc := yT l
 simp only [Tm.cnt] at hc
 have one : ∀ (i : Nat) (p : Pm), g[i]? = some p → ∀ (x : D), (ro (g.drop (i + 1)) (.mk k nm ot n0 ty re l)).Is x →
   ∃ s, (if 0 = 0 then D.cell (List.getD es i default) 0 else D.sub (List.getD es i default) 0 0) = D.lit (.string s) ∧ ∀ (N3 : Nat) (Q' : QT [.ag 9]), (∀ x' N4, N3 ≤ N4 → (ro (g.drop i) (.mk k nm ot n0 ty re l)).Is x' → Own N3 N4 x' → Q' x' N4) →
     ACalls prog 122 [.ag 9] [.str s, .dg 2 (if 2 = 0 then D.cell (List.getD es i default) 1 else D.sub (List.getD es i default) 1 2), .dg 9 x] N3 Q' := fun i p hp x hx => by
  obtain ⟨t0, t1, hd', hnm, hty⟩ := h.all.get hp
  have hpm := zJg (List.mem_of_getElem? hp)
  have hfc := zDJ (g.drop (i + 1)) (.mk k nm ot n0 ty re l)
  have hdw := zJx g (i + 1)
  simp only [Tm.cnt] at hfc
  rw [hd']
  refine ⟨_, rfl, fun N3 Q' hQ' => ?_⟩
  refine zOV hnm hty (by omega) hx (by omega) N3 Q' fun x' N4 hN4 hx' ho => hQ' x' N4 hN4 (by rw [zFM _ hp]; exact hx') ho
 have rest : ∀ (i : Nat), i ≤ g.length → ∀ (x : D) (N3 : Nat), N ≤ N3 → (ro (g.drop i) (.mk k nm ot n0 ty re l)).Is x → Own N N3 x → yH Q N a es c ((i : Int) - 1) 0 (bytes []) (bytes []) 0 0 none [] 0 0 none [] 0 none [] 0 x N3 := by
  intro i
  induction i with
  | zero =>
    intro hi x N3 hN3 hx ho
    refine wT _ _ _ _ _ _ _ _ _ _ _ _ _ _ _ _ _ _ _ _ _ _ _ (Br.dec (fun h => by omega) fun _ N4 hN4 => ?_)
    exact hQ _ _ (by omega) hx (ho.mono (Nat.le_refl _) hN4)
  | succ i ih =>
    intro hi x N3 hN3 hx ho
    have hp : g[i]? = some g[i] := List.getElem?_eq_getElem (by omega)
    refine wT _ _ _ _ _ _ _ _ _ _ _ _ _ _ _ _ _ _ _ _ _ _ _ ?_
    have e0 : (((i + 1 : Nat) : Int) - 1) = (i : Int) := by omega
    rw [e0, i64_in ((i : Int) - 1) (by omega), Int.toNat_natCast]
    refine Br.dec (fun _ => ⟨⟨by omega, by omega⟩, ?_⟩) fun h => by omega
    obtain ⟨s, hs, hcall⟩ := one i _ hp x hx
    exact ⟨s, hs, ⟨by omega, by omega⟩, fun N4 hN4 => hcall N4 _ fun x' N5 hN5 hx' ho' _ _ => ih (by omega) x' N5 (by omega) hx' (ho'.mono (by omega) (Nat.le_refl _))⟩
 have hcopy : ∀ (a5 : Option Addr) (N5 : Nat), N2 ≤ N5 → Fresh N N5 a5 [D.ag es'] → (Tm.mk k nm ot n0 ty re l).Is (.ag [.lit (.int .i64 k), .lit (.string nm), .lit (.string ot), .lit (.int .i64 n0), x4, x5, x6, x7, .sl a5 9 es' c']) := fun a5 N5 _ _ => Tm.is_mk.2 ⟨_, _, _, _, _, _, _, rfl, hh', by omega, hes'⟩
 refine qe _ _ _ _ _ _ _ _ _ _ _ _ _ _ _ _ _ _ _ _ _ _ _ _ _ _ _ _ _ _ _ _ _ _ ?_
 rw [i64_in ((es.length : Int) - 1) (by omega)]
 cases hge : g.length with
 | zero =>
   have hg0 : g = [] := List.eq_nil_of_length_eq_zero hge
   subst hg0
   refine Br.dec (fun h => by omega) fun _ => ⟨⟨rfl, rfl⟩, ⟨rfl, rfl⟩, ⟨rfl, rfl⟩, fun a5 N5 hN5 hf N6 hN6 => ?_⟩
   refine hQ _ _ (by omega) (Tm.is_mk.2 ⟨_, _, _, _, _, _, _, rfl, hh', by omega, hes'⟩) ?_
   exact wm (zE (zE (zE (zE ((zJb (hd := [x4, x5, x6, x7]) (ds := []) (ho'.mono hN1 (Nat.le_refl _)) hf (by omega)).mono (Nat.le_refl _) hN6)))))
 | succ m =>
   have hp : g[m]? = some g[m] := List.getElem?_eq_getElem (by omega)
   have hdrop : g.drop (m + 1) = [] := List.drop_of_length_le (by omega)
   have e0 : ((es.length : Int) - 1) = (m : Int) := by omega
   rw [e0, i64_in ((m : Int) - 1) (by omega), Int.toNat_natCast]
   have key := fun (x : D) (hx : (Tm.mk k nm ot n0 ty re l).Is x) => one m _ hp x (by rw [hdrop]; exact hx)
   obtain ⟨t0, t1, hd', hnm, hty⟩ := h.all.get hp
   refine Br.dec (fun _ => ⟨⟨by omega, by omega⟩, ?_⟩) fun h => by omega
   have hs0 : (if 0 = 0 then D.cell (List.getD es m default) 0 else D.sub (List.getD es m default) 0 0) = D.lit (.string g[m].nm) := by rw [hd']; rfl
   refine ⟨g[m].nm, hs0, ⟨by omega, by omega⟩, ⟨rfl, rfl⟩, ⟨rfl, rfl⟩, fun a5 N5 hN5 hf N6 hN6 => ?_⟩
   obtain ⟨s, hs, hcall⟩ := key _ (Tm.is_mk.2 ⟨x4, x5, x6, x7, a5, es', c', rfl, hh', by omega, hes'⟩)
   rw [hs0] at hs
   cases hs
   exact hcall N6 _ fun x' N7 hN7 hx' ho7 _ _ => rest m (by omega) x' N7 (by omega) hx' (ho7.mono (by omega) (Nat.le_refl _))
theorem zOs {s : ByteArray} (hs : s.size ≤ 4611686018427387904) {ty : Ty} {x1 : D} (h1 : ty.Is x1) (hc1 : ty.cnt ≤ 1073741824) {t : Tm} {x2 : D} (h2 : t.Is x2) (N0 N : Nat) (h0 : N0 ≤ N) (ho : Own N0 N x2) (Q : QT [.ag 9]) (hQ : ∀ d' N', N ≤ N' → (zPA s ty t).Is d' → Own N0 N' d' → Q d' N') :
  ACalls prog 124 [.ag 9] [.str s, .dg 2 x1, .dg 9 x2] N Q := by
 refine zHl N s x1 x2 Q fun _ _ N1 hN1 => ?_
 refine zDb ty x1 h1 hc1 N1 _ fun x N2 hN2 hx hox _ _ => ⟨⟨rfl, rfl⟩, ⟨rfl, rfl⟩, ⟨rfl, rfl⟩, fun a N3 hN3 hf N4 hN4 => ?_⟩
 refine hQ _ _ (by omega) (Tm.is_mk.2 ⟨_, _, _, _, _, _, _, rfl, ⟨hs, by decide, Ty.is_cells hx, xu _⟩, by simp, zGq h2⟩) ?_
 have hr := zJb (hd := [x.cell 0, x.cell 1]) (es := [x2]) (ds := [.sl none 2 [] 0]) (z := 9) (c := 1) (sX (wE hx hox) ((zN ho).mono (Nat.le_refl _) hN1) (by omega) (by omega)) (hf.mono h0 (Nat.le_refl _)) hN3
 exact wm (zE (zE (zE (zE (zMa (hr.mono (Nat.le_refl _) hN4))))))
end Go.Proofs.YtfkmegifjiiclaaGreat

/- Functions of parameters: the program. -/
set_option linter.unusedVariables false
set_option linter.unusedSimpArgs false
namespace Go.Proofs.YtfkmegifjiiclaaGreat
open Go Go.Proofs Go.RowKit Go.Shelf
attribute [local go_sem] Oper.semAt_some

theorem pj {F : Fence} {n : Nat} {P : Program} {ops : Array Oper} {rest : List Oper} {o : Oper} {a : Act} {w : World} {Q : Exit → Act → World → Prop} (hgd : o.guard = none) (ty : TypeId) (x y : Operand) (ho : o.op = .store ty x y)
  (b off : Nat) (cells : Array Value) (hx : a.eval x = .pointer (some ⟨b, off, none⟩)) (hy : a.eval y = .agg cells)
  (ht : w.there b off cells.size) (hi : (P.info? ty).map (·.size) = some cells.size) (h1 : cells.all (·.oneCell') = true)
  (h : wpListIn F n P ops Q rest (a.put o.dst undef) (w.setCells b off cells.toList)) : wpListIn F n P ops Q (o :: rest) a w := by
 refine wpListIn_plain hgd fun K hK => ?_
 unfold Oper.wpIn
 refine ⟨by simp [Oper.about, ho], ?_⟩
 rw [Oper.semAt_plain F _ _ (by rw [ho]; intro c hc; cases hc)]
 simp [execOp, ho, hx, hy, run_storeAt_mid w b off ty cells ht hi h1, Result.andThen]
 exact hK _ _ h

theorem zPs {d : D} (h : IsAg 9 d) : d.val = .agg #[(d.cell 0).cv, (d.cell 1).cv, (d.cell 2).cv, (d.cell 3).cv, (d.cell 4).cv, (d.cell 5).cv, (d.cell 6).cv, (d.cell 7).cv, (d.cell 8).cv] := by
 obtain ⟨cs, rfl, hl, _⟩ := h
 match cs, hl with
 | [c0, c1, c2, c3, c4, c5, c6, c7, c8], _ => simp [D.val, D.cvL, D.cell, D.cells, D.cv]
/-- a call that hands back a term, as the kit has calls -/
theorem zOE {f : FuncId} {args : List PV} {N : Nat} {P : D → Nat → Prop} (h : ACalls Tryz.prog f [.ag 9] args N (fun d N' => P d N')) (n : Nat) (av : Nat → Prop) (w0 : World) (hsz : w0.heap.size = N) (hav : ∀ b, av b → b < N) (hargs : ∀ p ∈ args, p.Ok w0 av ∧ p.refs = [])
  (vals : Array Value) (hv : (args.map (PV.val [])).toArray = vals) :
  CallsIn Fence.wide n Tryz.prog f vals w0 fun e w => ∃ d, e = .returned (.agg #[(d.cell 0).cv, (d.cell 1).cv, (d.cell 2).cv, (d.cell 3).cv, (d.cell 4).cv, (d.cell 5).cv, (d.cell 6).cv, (d.cell 7).cv, (d.cell 8).cv]) ∧ P d w.heap.size ∧ Good w av d ∧ IsAg 9 d ∧ w0.heap.size ≤ w.heap.size ∧
   (∀ b, b < w0.heap.size → w.heap[b]? = w0.heap[b]?) ∧ (∀ (b : Nat) (c : Array Value) (t : TypeId) (z : Nat × Nat), w0.heap.size ≤ b → w.heap[b]? = some (.cells c t z) → z = (0, 0)) ∧ w.os = w0.os ∧ w.output = w0.output := by
 subst hv
 refine callsIn_wide.2 ((h.h av w0 hsz hav hargs).mono fun e w hf => ?_)
 cases e with
 | returned v =>
   obtain ⟨ps, rows, e, hd⟩ := hf
   have hq := hd.q
   match ps, rows, hq with
   | [.dg n x], [], hq =>
     simp [QT.app] at hq
     obtain ⟨hn, hq⟩ := hq
     have hok := hd.ok _ (List.mem_singleton.2 rfl)
     simp only [PV.Ok] at hok
     obtain ⟨hG, hA⟩ := hok
     rw [← hn] at hA
     refine ⟨x, ?_, hq, ⟨hG.1, fun b hb hv => hG.2 b hb (.inl hv)⟩, hA, hd.size, hd.old, hd.fz, hd.ku.os, hd.ku.out⟩
     rw [← zPs hA, hd.v]
     rfl
 | _ => exact hf.elim

/-- the world while a function of parameters is built -/
structure FO (W w : World) (av : Nat → Prop) (s len cap : Nat) (a : Option Addr) (d : D) : Prop where
 size : s + 2 ≤ w.heap.size
 lo : W.heap.size + 2 ≤ s
 old : ∀ k, k < W.heap.size → w.heap[k]? = W.heap[k]?
 b4 : w.heap[W.heap.size + 1]? = some (.cells #[.int .i64 0, .string ⟨#[]⟩, .string ⟨#[]⟩, .int .i64 0, .int .i64 0, .slice none 0 0, .int .i64 0, .slice none 0 0, .slice none 0 0] 36 (0, 0))
 b5 : w.heap[s]? = some (.cells #[(d.cell 0).cv, (d.cell 1).cv, (d.cell 2).cv, (d.cell 3).cv, (d.cell 4).cv, (d.cell 5).cv, (d.cell 6).cv, (d.cell 7).cv, (d.cell 8).cv] 36 (0, 0))
 b8 : w.heap[s + 1]? = some (.cells #[.slice a len cap] 38 (0, 0))
 fz : ∀ (k : Nat) (c : Array Value) (t : TypeId) (z : Nat × Nat), W.heap.size ≤ k → w.heap[k]? = some (.cells c t z) → z = (0, 0)
 hd : Good w (fun b => av b ∨ b = W.heap.size ∨ b = W.heap.size + 1 ∨ b = s ∨ b = s + 1) d
 ag : IsAg 9 d
 os : w.os = W.os
 out : w.output = W.output
variable {W w : World} {av : Nat → Prop} {s len cap : Nat} {a : Option Addr} {d : D}
theorem FO.alloc (h : FO W w av s len cap a d) {o : Obj} (ho : ∀ c t z, o = .cells c t z → z = (0, 0)) : FO W (w.alloc o) av s len cap a d := by
 have key : ∀ k, k < w.heap.size → (w.alloc o).heap[k]? = w.heap[k]? := fun k hk => Below.heap_alloc _ _ _ hk
 have hs := h.size
 have hlo := h.lo
 refine ⟨by simp; omega, hlo, fun k hk => (key k (by omega)).trans (h.old k hk), (key _ (by omega)).trans h.b4, (key _ (by omega)).trans h.b5, (key _ (by omega)).trans h.b8, fun k c t z hk hc => ?_, h.hd.mono (fun b hb _ => key b hb) (fun b _ hb => hb), h.ag, h.os, h.out⟩
 by_cases hkw : k < w.heap.size
 ·rw [key k hkw] at hc; exact h.fz k c t z hk hc
 ·by_cases hkw2 : k = w.heap.size
  ·subst hkw2
   have h2 := World.alloc_heap_new w o
   rw [h2] at hc
   exact ho c t z (Option.some.inj hc)
  ·have : (w.alloc o).heap[k]? = none := Array.getElem?_eq_none (by simp; omega)
   rw [this] at hc; cases hc
theorem FO.put (h : FO W w av s len cap a d) {l : Nat} {o : Obj} (hl : s + 2 ≤ l) (hw : ∀ c t z, w.heap[l]? ≠ some (.cells c t z)) (ho : ∀ c t z, o = .cells c t z → z = (0, 0)) : FO W (w.putObj l o) av s len cap a d := by
 have key : ∀ k, k ≠ l → (w.putObj l o).heap[k]? = w.heap[k]? := fun k hk => World.putObj_heap_other hk
 have hlo := h.lo
 have hne : ∀ b ∈ d.foot, b ≠ l := fun b hb hbl => by
  subst hbl
  obtain ⟨c, t, z, hc⟩ := h.hd.1.block b hb
  exact hw c t z hc
 refine ⟨by simpa using h.size, hlo, fun k hk => (key k (by omega)).trans (h.old k hk), (key _ (by omega)).trans h.b4, (key _ (by omega)).trans h.b5, (key _ (by omega)).trans h.b8, fun k c t z hk hc => ?_, ⟨h.hd.1.mono fun b hb => key b (hne b hb), h.hd.2⟩, h.ag, h.os, h.out⟩
 by_cases hkl : k = l
 ·subst hkl
  by_cases hlt : k < w.heap.size
  ·rw [World.putObj_heap_same hlt] at hc
   exact ho c t z (Option.some.inj hc)
  ·have : (w.putObj k o).heap[k]? = none := Array.getElem?_eq_none (by simp; omega)
   rw [this] at hc; cases hc
 ·rw [key k hkl] at hc; exact h.fz k c t z hk hc
/-- nine cells of a block set -/
def zFG (w : World) (s : Nat) (d : D) : World :=
 ((((((((w.setCell ⟨s, 0, none⟩ (d.cell 0).cv).setCell ⟨s, 1, none⟩ (d.cell 1).cv).setCell ⟨s, 2, none⟩ (d.cell 2).cv).setCell ⟨s, 3, none⟩ (d.cell 3).cv).setCell ⟨s, 4, none⟩ (d.cell 4).cv).setCell ⟨s, 5, none⟩ (d.cell 5).cv).setCell ⟨s, 6, none⟩ (d.cell 6).cv).setCell ⟨s, 7, none⟩ (d.cell 7).cv).setCell ⟨s, 8, none⟩ (d.cell 8).cv
theorem zO8 (w : World) (s : Nat) (d : D) : w.setCells s 0 #[(d.cell 0).cv, (d.cell 1).cv, (d.cell 2).cv, (d.cell 3).cv, (d.cell 4).cv, (d.cell 5).cv, (d.cell 6).cv, (d.cell 7).cv, (d.cell 8).cv].toList = zFG w s d := rfl
theorem zPf {w : World} {s : Nat} {v0 v1 v2 v3 v4 v5 v6 v7 v8 : Value} {t : TypeId} (h : w.heap[s]? = some (.cells #[v0, v1, v2, v3, v4, v5, v6, v7, v8] t (0, 0))) : w.there s 0 9 := fun j hj => by
 refine ⟨?_, by simp [World.frozen?, h]⟩
 simp [World.cell?, h]
 omega
theorem xK {w : World} {s k : Nat} {d : D} (h : k ≠ s) : (zFG w s d).heap[k]? = w.heap[k]? := by
 unfold zFG
 rw [zG h, zG h, zG h, zG h, zG h, zG h, zG h, zG h, zG h]
theorem zDZ {w : World} {s : Nat} {d : D} {v0 v1 v2 v3 v4 v5 v6 v7 v8 : Value} {t : TypeId} {z : Nat × Nat} (h : w.heap[s]? = some (.cells #[v0, v1, v2, v3, v4, v5, v6, v7, v8] t z)) :
  (zFG w s d).heap[s]? = some (.cells #[(d.cell 0).cv, (d.cell 1).cv, (d.cell 2).cv, (d.cell 3).cv, (d.cell 4).cv, (d.cell 5).cv, (d.cell 6).cv, (d.cell 7).cv, (d.cell 8).cv] t z) := by
 unfold zFG
 rw [zh (zh (zh (zh (zh (zh (zh (zh (zh h))))))))]
 simp only [List.setIfInBounds_toArray, List.set_cons_zero, List.set_cons_succ]
theorem yN {w : World} {p : Addr} {v : Value} : (w.setCell p v).heap.size = w.heap.size := by
 unfold World.setCell; split <;> simp
theorem xO {w : World} {p : Addr} {v : Value} : (w.setCell p v).os = w.os := by
 unfold World.setCell; split <;> rfl
theorem yn {w : World} {p : Addr} {v : Value} : (w.setCell p v).output = w.output := by
 unfold World.setCell; split <;> rfl
theorem qv {w : World} {s : Nat} {d : D} : (zFG w s d).heap.size = w.heap.size := by
 unfold zFG; rw [yN, yN, yN, yN, yN, yN, yN, yN, yN]
theorem set9_os {w : World} {s : Nat} {d : D} : (zFG w s d).os = w.os := by
 unfold zFG; rw [xO, xO, xO, xO, xO, xO, xO, xO, xO]
theorem set9_out {w : World} {s : Nat} {d : D} : (zFG w s d).output = w.output := by
 unfold zFG; rw [yn, yn, yn, yn, yn, yn, yn, yn, yn]
theorem FO.set (h : FO W w av s len cap a d) {d' : D} (hd : Good w (fun b => av b ∨ b = W.heap.size ∨ b = W.heap.size + 1 ∨ b = s ∨ b = s + 1) d') (hA : IsAg 9 d') : FO W (zFG w s d') av s len cap a d' := by
 have hlo := h.lo
 have hs := h.size
 refine ⟨by rw [qv]; exact hs, hlo, fun k hk => (xK (by omega)).trans (h.old k hk), (xK (by omega)).trans h.b4, zDZ h.b5, (xK (by omega)).trans h.b8, fun k c t z hk hc => ?_, ⟨hd.1.mono fun b hb => xK fun hbs => hd.2 b hb (by simp [hbs]), hd.2⟩, hA, set9_os.trans h.os, set9_out.trans h.out⟩
 by_cases hks : k = s
 ·subst hks; rw [zDZ h.b5] at hc; cases hc; rfl
 ·rw [xK hks] at hc; exact h.fz k c t z hk hc
/-- a parameter's cells -/
def pf (d : D) : ByteArray × Int × (Option Addr × Nat × Nat) × Bool := match d with
 | .ag [.lit (.string s), .lit (.int _ k), .sl a _ es c, .lit (.bool b)] => (s, k, (a, es.length, c), b)
 | _ => (⟨#[]⟩, 0, (none, 0, 0), false)
theorem zHr : ∀ {es : List D} {j : Nat} {c0 c1 c2 c3 : D}, (∀ e ∈ es, e.cells.length = 4) → es[j]? = some (.ag [c0, c1, c2, c3]) → (flat es)[j * 4]? = some c0 ∧ (flat es)[j * 4 + 1]? = some c1 ∧ (flat es)[j * 4 + 2]? = some c2 ∧ (flat es)[j * 4 + 3]? = some c3
 | e :: es, 0, c0, c1, c2, c3, h4, h => by
   simp at h; subst h
   rw [wL]
   simp [D.cells]
 | e :: es, j + 1, c0, c1, c2, c3, h4, h => by
   have ih := zHr (es := es) (j := j) (fun x hx => h4 x (by simp [hx])) (by simpa using h)
   have he := h4 e (by simp)
   rw [wL]
   have g : ∀ k, (e.cells ++ flat es)[k + 4]? = (flat es)[k]? := fun k => by
    rw [List.getElem?_append_right (by omega), he]; simp
   rw [show (j + 1) * 4 = j * 4 + 4 by omega, show j * 4 + 4 + 1 = j * 4 + 1 + 4 by omega, show j * 4 + 4 + 2 = j * 4 + 2 + 4 by omega, show j * 4 + 4 + 3 = j * 4 + 3 + 4 by omega, g, g, g, g]
   exact ih
end Go.Proofs.YtfkmegifjiiclaaGreat

/- Functions of parameters: the walk. -/
set_option linter.unusedVariables false
set_option linter.unusedSimpArgs false
namespace Go.Proofs.YtfkmegifjiiclaaGreat
open Go Go.Proofs Go.RowKit Go.Shelf
attribute [local go_sem] Oper.semAt_some run_store

theorem zLp {W : World} {av : Nat → Prop} {g : List Pm} {es : List D} (h : Pms g es) {a : Option Addr} {c : Nat} (hG : Good W av (.sl a 4 es c)) :
  ∃ b off, (0 < es.length → a = some ⟨b, off, none⟩) ∧ ∀ j, j < es.length → ∃ p s k a2 es2 c2 bo, g[j]? = some p ∧ pf (es.getD j default) = (s, k, (a2, es2.length, c2), bo) ∧ (s = p.nm ∧ s.size ≤ 4611686018427387904 ∧ p.ty.Is (.ag [.lit (.int .i64 k), .sl a2 2 es2 c2]) ∧ Good W av (.ag [.lit (.int .i64 k), .sl a2 2 es2 c2])) ∧
    W.cell? ⟨b, off + j * 4, none⟩ = some (.string s) ∧ W.cell? ⟨b, off + j * 4 + 1, none⟩ = some (.int .i64 k) ∧ W.cell? ⟨b, off + j * 4 + 2, none⟩ = some (.slice a2 es2.length c2) ∧ W.cell? ⟨b, off + j * 4 + 3, none⟩ = some (.bool bo) := by
 have hl := h.all.len
 have one : ∀ j, j < es.length → ∃ p k a2 es2 c2, g[j]? = some p ∧ es.getD j default = .ag [.lit (.string p.nm), .lit (.int .i64 k), .sl a2 2 es2 c2, .lit (.bool p.dy)] ∧ p.nm.size ≤ 4611686018427387904 ∧ p.ty.Is (.ag [.lit (.int .i64 k), .sl a2 2 es2 c2]) := fun j hj => by
  have hp : g[j]? = some g[j] := List.getElem?_eq_getElem (by omega)
  obtain ⟨t0, t1, e, hnm, hty⟩ := h.all.get hp
  generalize g[j] = p at *
  obtain ⟨nm, ⟨k, l⟩, dy⟩ := p
  obtain ⟨a2, es2, c2, e2, hl2, h2⟩ := Ty.is_mk.1 hty
  have e2 := D.ag.inj e2
  simp only [List.cons.injEq, and_true] at e2
  obtain ⟨rfl, rfl⟩ := e2
  exact ⟨_, k, a2, es2, c2, hp, e, hnm, Ty.is_mk.2 ⟨_, _, _, rfl, hl2, h2⟩⟩
 have h4 : ∀ e ∈ es, e.cells.length = 4 := fun e he => by
  obtain ⟨j, hj⟩ := List.mem_iff_getElem?.1 he
  have hlt := (List.getElem?_eq_some_iff.1 hj).1
  obtain ⟨p, k, a2, es2, c2, _, h2, _⟩ := one j hlt
  rw [List.getD_eq_getElem?_getD, hj] at h2
  simp only [Option.getD_some] at h2
  rw [h2]; rfl
 have el : ∀ j, j < es.length → Good W av (es.getD j default) := fun j hj => by
  have hm : es.getD j default ∈ es := by
   rw [List.getD_eq_getElem?_getD, List.getElem?_eq_getElem hj]; exact List.getElem_mem hj
  exact hG.elem hm
 have hH := hG.1
 cases hH with
 | nil => exact ⟨0, 0, fun h => absurd h (by simp), fun j hj => absurd hj (by simp)⟩
 | @sl ad z _ cap h1 h2 h3 _ h5 =>
   obtain ⟨b, off, sp⟩ := ad
   by_cases h0 : 0 < es.length
   ·have hne : es ≠ [] := by intro hc; subst hc; simp at h0
    have h1 := h1 hne
    simp only at h1; subst h1
    refine ⟨b, off, fun _ => rfl, fun j hj => ?_⟩
    obtain ⟨p, k, a2, es2, c2, hp, e, hnm, hty⟩ := one j hj
    have hg := el j hj
    have ej : es[j]? = some (.ag [.lit (.string p.nm), .lit (.int .i64 k), .sl a2 2 es2 c2, .lit (.bool p.dy)]) := by
     rw [List.getElem?_eq_getElem hj, ← e, List.getD_eq_getElem?_getD, List.getElem?_eq_getElem hj]; rfl
    obtain ⟨g0, g1, g2, g3⟩ := zHr h4 ej
    rw [e] at hg
    refine ⟨p, p.nm, k, a2, es2, c2, p.dy, hp, by rw [e]; rfl, ⟨rfl, hnm, hty, ⟨?_, fun b hb => hg.2 b ?_⟩⟩, ?_⟩
    ·have hh := hg.1
     cases hh with
     | ag hh => exact .ag fun x hx => hh x (by simp at hx; rcases hx with rfl | rfl <;> simp)
    ·simp only [D.foot, zA, List.nil_append, List.append_nil] at hb ⊢; exact hb
    rcases h5 with h5 | ⟨cc, t, fz, h6, h7⟩
    ·rw [h5] at g0; simp at g0
    ·have g0 := h7 _ _ g0; have g1 := h7 _ _ g1; have g2 := h7 _ _ g2; have g3 := h7 _ _ g3
     have hcell : ∀ i, W.cell? ⟨b, i, none⟩ = cc[i]? := fun i => FG.cell (W := W) h6
     refine ⟨?_, ?_, ?_, ?_⟩
     ·rw [hcell]; exact g0
     ·rw [hcell, Nat.add_assoc]; exact g1
     ·rw [hcell, Nat.add_assoc]; exact g2
     ·rw [hcell, Nat.add_assoc]; exact g3
   ·exact ⟨b, off, fun h => absurd h h0, fun j hj => absurd hj (by omega)⟩

theorem zJk {d : D} (h : IsAg 9 d) : (d.cell 0).cv.oneCell' = true ∧ (d.cell 1).cv.oneCell' = true ∧ (d.cell 2).cv.oneCell' = true ∧ (d.cell 3).cv.oneCell' = true ∧ (d.cell 4).cv.oneCell' = true ∧ (d.cell 5).cv.oneCell' = true ∧ (d.cell 6).cv.oneCell' = true ∧ (d.cell 7).cv.oneCell' = true ∧ (d.cell 8).cv.oneCell' = true := by
 obtain ⟨cs, rfl, hl, hc⟩ := h
 match cs, hl, hc with
 | [c0, c1, c2, c3, c4, c5, c6, c7, c8], _, hc =>
   simp only [List.mem_cons, List.not_mem_nil, or_false, forall_eq_or_imp, forall_eq] at hc
   obtain ⟨h0, h1, h2, h3, h4, h5, h6, h7, h8⟩ := hc
   exact ⟨zO h0, zO h1, zO h2, zO h3, zO h4, zO h5, zO h6, zO h7, zO h8⟩
theorem zLf {w : World} {l : Nat} {o : Obj} : (w.putObj l o).os = w.os := rfl
theorem zKa {w : World} {l : Nat} {o : Obj} : (w.putObj l o).output = w.output := rfl
theorem zQx {fn : Func} (hfn : fn.results = #[.cell 4 36]) {w : World} {b : Nat} {d : D} {ty : TypeId} {z : Nat × Nat}
  (h : w.heap[b]? = some (.cells #[(d.cell 0).cv, (d.cell 1).cv, (d.cell 2).cv, (d.cell 3).cv, (d.cell 4).cv, (d.cell 5).cv, (d.cell 6).cv, (d.cell 7).cv, (d.cell 8).cv] ty z)) {tm : Array Value} (ht : tm[4]?.getD undef = .pointer (some ⟨b, 0, none⟩)) :
  (results fn tm).run Tryz.prog w = .ok (.agg #[(d.cell 0).cv, (d.cell 1).cv, (d.cell 2).cv, (d.cell 3).cv, (d.cell 4).cv, (d.cell 5).cv, (d.cell 6).cv, (d.cell 7).cv, (d.cell 8).cv]) w := by
 have c50 : w.cell? ⟨b, 0, none⟩ = some (d.cell 0).cv := FG.cell (W := w) h
 have c51 : w.cell? ⟨b, 1, none⟩ = some (d.cell 1).cv := FG.cell (W := w) h
 have c52 : w.cell? ⟨b, 2, none⟩ = some (d.cell 2).cv := FG.cell (W := w) h
 have c53 : w.cell? ⟨b, 3, none⟩ = some (d.cell 3).cv := FG.cell (W := w) h
 have c54 : w.cell? ⟨b, 4, none⟩ = some (d.cell 4).cv := FG.cell (W := w) h
 have c55 : w.cell? ⟨b, 5, none⟩ = some (d.cell 5).cv := FG.cell (W := w) h
 have c56 : w.cell? ⟨b, 6, none⟩ = some (d.cell 6).cv := FG.cell (W := w) h
 have c57 : w.cell? ⟨b, 7, none⟩ = some (d.cell 7).cv := FG.cell (W := w) h
 have c58 : w.cell? ⟨b, 8, none⟩ = some (d.cell 8).cv := FG.cell (W := w) h
 simp [results, hfn, go_sem, ht, c50, c51, c52, c53, c54, c55, c56, c57, c58]
set_option maxRecDepth 100000 in
set_option maxHeartbeats 4000000 in
theorem zQn (n : Nat) (hn : 5 ≤ n) {g : List Pm} {es : List D} (h : Pms g es) (hg : g.length ≤ 1073741824) (hW : pmW g ≤ 536870000) {t : Tm} {d : D} (ht : t.Is d) (hc : t.cnt ≤ 536870000) (a : Option Addr) (c : Nat)
  (av : Nat → Prop) (W : World) (hav : ∀ b, av b → b < W.heap.size) (hG : Good W av (.sl a 4 es c)) (hGd : Good W av d) (hA : IsAg 9 d) :
  CallsIn Fence.wide n Tryz.prog 67 #[.slice a es.length c, .agg #[(d.cell 0).cv, (d.cell 1).cv, (d.cell 2).cv, (d.cell 3).cv, (d.cell 4).cv, (d.cell 5).cv, (d.cell 6).cv, (d.cell 7).cv, (d.cell 8).cv]] W fun e w => ∃ r, e = .returned (.agg #[(r.cell 0).cv, (r.cell 1).cv, (r.cell 2).cv, (r.cell 3).cv, (r.cell 4).cv, (r.cell 5).cv, (r.cell 6).cv, (r.cell 7).cv, (r.cell 8).cv]) ∧ (ro g t).Is r ∧ Own W.heap.size w.heap.size r ∧ Good w av r ∧ IsAg 9 r ∧ W.heap.size ≤ w.heap.size ∧
   (∀ b, b < W.heap.size → w.heap[b]? = W.heap[b]?) ∧ (∀ (b : Nat) (c : Array Value) (t : TypeId) (z : Nat × Nat), W.heap.size ≤ b → w.heap[b]? = some (.cells c t z) → z = (0, 0)) ∧ w.os = W.os ∧ w.output = W.output := by
 obtain ⟨b, off, ha, hcells⟩ := zLp h hG
 refine callsIn_of_wp_marks Tryz.func67 rfl trivial ?_ rfl
 simp only [Tryz.ntmps67, List.size_toArray, List.length_cons, List.length_nil, Nat.reduceAdd, Nat.reduceSub, Array.replicate_succ, Array.replicate_zero, List.push_toArray, List.append_toArray, List.nil_append, List.cons_append]
 gi_wp2
 obtain ⟨W0, hW0⟩ : ∃ W0, W0 = ((W.alloc (.cells #[(d.cell 0).cv, (d.cell 1).cv, (d.cell 2).cv, (d.cell 3).cv, (d.cell 4).cv, (d.cell 5).cv, (d.cell 6).cv, (d.cell 7).cv, (d.cell 8).cv] 36)).alloc (.cells #[.int .i64 0, .string ⟨#[]⟩, .string ⟨#[]⟩, .int .i64 0, .int .i64 0, .slice none 0 0, .int .i64 0, .slice none 0 0, .slice none 0 0] 36)) := ⟨_, rfl⟩
 rw [← hW0]
 have h0s : W0.heap.size = W.heap.size + 2 := by rw [hW0]; simp
 have h0o : ∀ k, k < W.heap.size → W0.heap[k]? = W.heap[k]? := fun k hk => by
  rw [hW0, Below.heap_alloc _ _ _ (by simp; omega), Below.heap_alloc _ _ _ (by omega)]
 have h03 : W0.heap[W.heap.size]? = some (.cells #[(d.cell 0).cv, (d.cell 1).cv, (d.cell 2).cv, (d.cell 3).cv, (d.cell 4).cv, (d.cell 5).cv, (d.cell 6).cv, (d.cell 7).cv, (d.cell 8).cv] 36 (0, 0)) := by
  rw [hW0, Below.heap_alloc _ _ _ (by simp)]; exact World.alloc_heap_new _ _
 have h04 : W0.heap[W.heap.size + 1]? = some (.cells #[.int .i64 0, .string ⟨#[]⟩, .string ⟨#[]⟩, .int .i64 0, .int .i64 0, .slice none 0 0, .int .i64 0, .slice none 0 0, .slice none 0 0] 36 (0, 0)) := by
  rw [hW0]
  have := World.alloc_heap_new (W.alloc (.cells #[(d.cell 0).cv, (d.cell 1).cv, (d.cell 2).cv, (d.cell 3).cv, (d.cell 4).cv, (d.cell 5).cv, (d.cell 6).cv, (d.cell 7).cv, (d.cell 8).cv] 36)) (.cells #[.int .i64 0, .string ⟨#[]⟩, .string ⟨#[]⟩, .int .i64 0, .int .i64 0, .slice none 0 0, .int .i64 0, .slice none 0 0, .slice none 0 0] 36)
  rwa [World.size_alloc] at this
 have h0os : W0.os = W.os := by rw [hW0]; rfl
 have h0out : W0.output = W.output := by rw [hW0]; rfl
 clear hW0
 have hblt : ∀ {x : D} {b : Nat}, Good W av x → b ∈ x.foot → b < W.heap.size := fun hx hb => by
  obtain ⟨c, t, z, hc⟩ := hx.1.block _ hb
  exact (Array.getElem?_eq_some_iff.1 hc).1
 refine ⟨trivial, fun _ => by omega, (zOE (zMh t d ht (by omega) W0.heap.size (fun d' N' => t.Is d' ∧ Own W0.heap.size N' d') fun d' N' _ h1 h2 => ⟨h1, h2⟩) (n - 1) (fun b => av b ∨ b = W.heap.size ∨ b = W.heap.size + 1) W0 rfl (fun b hb => ?_) (fun p hp => ?_) _ ?_).mono ?_⟩
 ·show b < W0.heap.size
  rcases hb with hb | hb | hb
  ·have := hav b hb; omega
  ·omega
  ·omega
 ·simp at hp; subst hp
  refine ⟨⟨⟨hGd.1.mono fun b hb => h0o b (hblt hGd hb), fun b hb hbb => ?_⟩, hA⟩, rfl⟩
  have := hblt hGd hb
  rcases hbb with hbb | hbb | hbb
  ·exact hGd.2 b hb hbb
  ·omega
  ·omega
 ·simp [PV.val, PV.val1, zPs hA]
 rintro e w ⟨d1, rfl, ⟨hd1, hO1⟩, hG1, hA1, hsz1, hold1, hfz1, hos1, hout1⟩
 obtain ⟨o0, o1, o2, o3, o4, o5, o6, o7, o8⟩ := zJk hA1
 gi_wp2
 have hs2 : W.heap.size + 2 ≤ w.heap.size := by omega
 refine ⟨trivial, fun _ => by omega, (zPM Fence.wide (n - 1) trivial rfl a es.length c _).mono ?_⟩
 rintro e W' ⟨rfl, rfl⟩
 gi_wp2
 obtain ⟨s, hs⟩ : ∃ s, w.heap.size = s := ⟨_, rfl⟩
 obtain ⟨Z, hZ⟩ : ∃ Z, Z = ((w.alloc (.cells #[(d1.cell 0).cv, (d1.cell 1).cv, (d1.cell 2).cv, (d1.cell 3).cv, (d1.cell 4).cv, (d1.cell 5).cv, (d1.cell 6).cv, (d1.cell 7).cv, (d1.cell 8).cv] 36)).alloc (.cells #[.slice a es.length c] 38 (0, 0))) := ⟨_, rfl⟩
 have hFO : FO W Z av s es.length c a d1 := by
  have zo : ∀ k, k < w.heap.size → Z.heap[k]? = w.heap[k]? := fun k hk => by
   rw [hZ, Below.heap_alloc _ _ _ (by simp; omega), Below.heap_alloc _ _ _ (by omega)]
  have z5 : Z.heap[s]? = some (.cells #[(d1.cell 0).cv, (d1.cell 1).cv, (d1.cell 2).cv, (d1.cell 3).cv, (d1.cell 4).cv, (d1.cell 5).cv, (d1.cell 6).cv, (d1.cell 7).cv, (d1.cell 8).cv] 36 (0, 0)) := by
   rw [hZ, ← hs, Below.heap_alloc _ _ _ (by simp)]; exact World.alloc_heap_new _ _
  have z8 : Z.heap[s + 1]? = some (.cells #[.slice a es.length c] 38 (0, 0)) := by
   rw [hZ, ← hs]
   have := World.alloc_heap_new (w.alloc (.cells #[(d1.cell 0).cv, (d1.cell 1).cv, (d1.cell 2).cv, (d1.cell 3).cv, (d1.cell 4).cv, (d1.cell 5).cv, (d1.cell 6).cv, (d1.cell 7).cv, (d1.cell 8).cv] 36)) (.cells #[.slice a es.length c] 38 (0, 0))
   rwa [World.size_alloc] at this
  have zs : Z.heap.size = s + 2 := by rw [hZ, ← hs]; simp
  have hdl : ∀ b ∈ d1.foot, b < w.heap.size := fun b hb => by
   obtain ⟨c, t, z, hc⟩ := hG1.1.block _ hb
   exact (Array.getElem?_eq_some_iff.1 hc).1
  refine ⟨by omega, by omega, fun k hk => ?_, ?_, z5, z8, fun k cc tt z hk hcc => ?_, ⟨hG1.1.mono fun b hb => zo b (hdl b hb), fun b hb hbb => ?_⟩, hA1, ?_, ?_⟩
  ·rw [zo k (by omega), hold1 k (by omega), h0o k hk]
  ·rw [zo _ (by omega), hold1 _ (by omega), h04]
  ·by_cases h1 : k < w.heap.size
   ·rw [zo k h1] at hcc
    by_cases h2 : k < W0.heap.size
    ·rw [hold1 k h2] at hcc
     rcases (show k = W.heap.size ∨ k = W.heap.size + 1 by omega) with rfl | rfl
     ·rw [h03] at hcc; cases hcc; rfl
     ·rw [h04] at hcc; cases hcc; rfl
    ·exact hfz1 k cc tt z (by omega) hcc
   ·have h3 := (Array.getElem?_eq_some_iff.1 hcc).1
    rcases (show k = s ∨ k = s + 1 by omega) with rfl | rfl
    ·rw [z5] at hcc; cases hcc; rfl
    ·rw [z8] at hcc; cases hcc; rfl
  ·have h1 := hdl b hb
   have h2 := hG1.2 b hb
   rcases hbb with hbb | hbb | hbb | hbb | hbb
   ·exact h2 (.inl hbb)
   ·exact h2 (.inr (.inl hbb))
   ·exact h2 (.inr (.inr hbb))
   ·omega
   ·omega
  ·rw [hZ]; exact hos1.trans h0os
  ·rw [hZ]; exact hout1.trans h0out
 have hZs : Z.heap.size = s + 2 := by rw [hZ, ← hs]; simp
 rw [hs, ← hZ]
 have hO1' : Own W.heap.size Z.heap.size d1 := hO1.mono (by omega) (by omega)
 clear hZ hs2 
 refine zLt rfl (by omega) (gf := 163) rfl trivial (enters_of Tryz.func163 (by kernel_rfl) rfl) (len := es.length)
  (vals := fun i => #[.int .i64 ((es.length - 1 - i : Nat) : Int), .agg #[.string (pf (es.getD (es.length - 1 - i) default)).1, .int .i64 (pf (es.getD (es.length - 1 - i) default)).2.1, .slice (pf (es.getD (es.length - 1 - i) default)).2.2.1.1 (pf (es.getD (es.length - 1 - i) default)).2.2.1.2.1 (pf (es.getD (es.length - 1 - i) default)).2.2.1.2.2, .bool (pf (es.getD (es.length - 1 - i) default)).2.2.2]]) (fun i => rfl)
  (fun i w => ∃ d2, FO W w av s es.length c a d2 ∧ (ro (g.drop (es.length - i)) t).Is d2 ∧ Own W.heap.size w.heap.size d2)
  (fun i w => False) ?_ ?_ ?_ ?_ ?_ ?_ ?_
 ·rintro i w r r' h ⟨d2, hF, h1, h2⟩
  exact ⟨d2, hF.put (by omega) (fun _ _ _ hc => by rw [h] at hc; cases hc) (by simp), h1, by simpa using h2⟩
 ·rintro i w r r' h h1
  exact h1.elim
 ·intro r
  refine ⟨d1, FO.alloc (FO.alloc hFO (by simp)) (by simp), ?_, hO1'.mono (Nat.le_refl _) (by simp; omega)⟩
  rw [Nat.sub_zero, h.all.len, List.drop_length]
  exact hd1
 ·intro l J Jx w hJ h0 hY
  refine zOg Fence.wide (n - 1) trivial rfl (by omega) l (s + 1) b off es.length c a ha (fun j => pf (es.getD j default)) (by have := h.all.len; omega) J Jx (fun i w hh => ?_) hY w h0
  obtain ⟨_, hF, _, _⟩ := hJ i w hh
  have hco : ∀ p : Addr, p.block < W.heap.size → w.cell? p = W.cell? p := fun p hp => by simp [World.cell?, hF.old _ hp]
  refine ⟨FG.cell (W := w) hF.b8, fun j hj => ?_⟩
  obtain ⟨p, s', k, a2, es2, c2, bo, _, e1, _, g1, g2, g3, g4⟩ := hcells j hj
  have hb : b < W.heap.size := by
   by_cases hb : b < W.heap.size
   ·exact hb
   ·have h0 : W.heap[b]? = none := Array.getElem?_eq_none (by omega)
    simp [World.cell?, h0] at g1
  rw [e1]
  exact ⟨(hco _ hb).trans g1, (hco _ hb).trans g2, (hco _ hb).trans g3, (hco _ hb).trans g4⟩
 ·rintro i w r0 hi ⟨d2, hF, h1, h2⟩ hl hD
  obtain ⟨p, s', k, a2, es2, c2, bo, hp, e1, ⟨rfl, hnm, hty, hGt⟩, _⟩ := hcells (es.length - 1 - i) (by omega)
  simp only [List.zip_toArray, List.size_toArray, e1]
  gi_wp2
  rw [hZs] at hl hD ⊢
  have hl1 := (Array.getElem?_eq_some_iff.1 hl).1
  have hsz := hF.size
  have hlo := hF.lo
  refine ⟨Below.heap_alloc _ _ _ (by omega), Below.heap_alloc _ _ _ (by omega), fun r => ?_⟩
  obtain ⟨w2, hw2⟩ : ∃ w2, w2 = (w.alloc (Obj.cells #[Value.string p.nm, Value.int IntKind.i64 k, .slice a2 es2.length c2, Value.bool bo] 71)).putObj (s + 2 + 1) (Obj.loop r) := ⟨_, rfl⟩
  have hF2 : FO W w2 av s es.length c a d2 := by
   rw [hw2]
   refine (hF.alloc (by simp)).put (by omega) (fun c t z hc => ?_) (by simp)
   rw [Below.heap_alloc _ _ _ (by omega), hl] at hc
   cases hc
  have h6 : w2.heap[w.heap.size]? = some (Obj.cells #[Value.string p.nm, Value.int IntKind.i64 k, .slice a2 es2.length c2, Value.bool bo] 71) := by
   rw [hw2, World.putObj_heap_other (by omega)]; exact World.alloc_heap_new _ _
  have hl2 : w2.heap[s + 2 + 1]? = some (.loop r) := by rw [hw2]; exact World.putObj_heap_same (by simp; omega)
  have hD2 : w2.heap[s + 2]? = some (.deferred (some [])) := by rw [hw2, World.putObj_heap_other (by omega), Below.heap_alloc _ _ _ (by omega)]; exact hD
  have hs2 : w2.heap.size = w.heap.size + 1 := by rw [hw2]; simp
  rw [← hw2]
  have c60 : w2.cell? ⟨w.heap.size, 0, none⟩ = some (.string p.nm) := FG.cell (W := w) h6
  have c61 : w2.cell? ⟨w.heap.size, 1, none⟩ = some (.int .i64 k) := FG.cell (W := w) h6
  have c62 : w2.cell? ⟨w.heap.size, 2, none⟩ = some (.slice a2 es2.length c2) := FG.cell (W := w) h6
  have c50 : w2.cell? ⟨s, 0, none⟩ = some (d2.cell 0).cv := FG.cell (W := w) hF2.b5
  have c51 : w2.cell? ⟨s, 1, none⟩ = some (d2.cell 1).cv := FG.cell (W := w) hF2.b5
  have c52 : w2.cell? ⟨s, 2, none⟩ = some (d2.cell 2).cv := FG.cell (W := w) hF2.b5
  have c53 : w2.cell? ⟨s, 3, none⟩ = some (d2.cell 3).cv := FG.cell (W := w) hF2.b5
  have c54 : w2.cell? ⟨s, 4, none⟩ = some (d2.cell 4).cv := FG.cell (W := w) hF2.b5
  have c55 : w2.cell? ⟨s, 5, none⟩ = some (d2.cell 5).cv := FG.cell (W := w) hF2.b5
  have c56 : w2.cell? ⟨s, 6, none⟩ = some (d2.cell 6).cv := FG.cell (W := w) hF2.b5
  have c57 : w2.cell? ⟨s, 7, none⟩ = some (d2.cell 7).cv := FG.cell (W := w) hF2.b5
  have c58 : w2.cell? ⟨s, 8, none⟩ = some (d2.cell 8).cv := FG.cell (W := w) hF2.b5
  have h2' : Own W.heap.size w2.heap.size d2 := h2.mono (Nat.le_refl _) (by omega)
  clear hw2
  gi_wp2
  have hpw := zJg (List.mem_of_getElem? hp)
  have hbw : ∀ {x : D} {b : Nat}, Good w2 (fun b => av b ∨ b = W.heap.size ∨ b = W.heap.size + 1 ∨ b = s ∨ b = s + 1) x → b ∈ x.foot → b < w2.heap.size := fun hx hb => by
   obtain ⟨c, t, z, hc⟩ := hx.1.block _ hb
   exact (Array.getElem?_eq_some_iff.1 hc).1
  refine ⟨trivial, fun _ => by omega, CallsIn.inRound _ ((zOE (zOs hnm hty (by omega) h1 W.heap.size w2.heap.size (by omega) h2' (fun d' N' => (zPA p.nm p.ty (ro (g.drop (es.length - i)) t)).Is d' ∧ Own W.heap.size N' d') fun d' N' _ h1 h2 => ⟨h1, h2⟩) _ (fun b => av b ∨ b = W.heap.size ∨ b = W.heap.size + 1 ∨ b = s ∨ b = s + 1) w2 rfl (fun b hb => ?_) (fun q hq => ?_) _ ?_).mono ?_)⟩
  ·show b < w2.heap.size
   rcases hb with hb | hb | hb | hb | hb
   ·have := hav b hb; omega
   ·omega
   ·omega
   ·omega
   ·omega
  ·simp only [List.mem_cons, List.not_mem_nil, or_false] at hq
   rcases hq with rfl | rfl | rfl
   ·exact ⟨trivial, rfl⟩
   ·refine ⟨⟨⟨hGt.1.mono fun b hb => hF2.old b (hblt hGt hb), fun b hb hbb => ?_⟩, ?_⟩, rfl⟩
    ·have := hblt hGt hb
     rcases hbb with hbb | hbb | hbb | hbb | hbb
     ·exact hGt.2 b hb hbb
     ·omega
     ·omega
     ·omega
     ·omega
    ·refine ⟨_, rfl, rfl, fun x hx => ?_⟩
     simp at hx
     rcases hx with rfl | rfl <;> simp [D.isCell, Value.oneCell']
   ·exact ⟨⟨hF2.hd, hF2.ag⟩, rfl⟩
  ·have vv : D.val (.ag [.lit (.int .i64 k), .sl a2 2 es2 c2]) = .agg #[.int .i64 k, .slice a2 es2.length c2] := by simp [D.val, D.cv]
   simp [PV.val, PV.val1, PV.cv, zPs hF2.ag, vv]
  rintro e w3 ⟨d3, rfl, ⟨hd3, hO3⟩, hG3, hA3, hsz3, hold3, hfz3, hos3, hout3⟩
  have hF3 : FO W w3 av s es.length c a d2 := by
   refine ⟨by omega, hlo, fun k hk => (hold3 k (by omega)).trans (hF2.old k hk), (hold3 _ (by omega)).trans hF2.b4, (hold3 _ (by omega)).trans hF2.b5, (hold3 _ (by omega)).trans hF2.b8, fun k cc tt z hk hcc => ?_, ⟨hF2.hd.1.mono fun b hb => hold3 b (hbw hF2.hd hb), hF2.hd.2⟩, hF2.ag, hos3.trans hF2.os, hout3.trans hF2.out⟩
   by_cases hk2 : k < w2.heap.size
   ·rw [hold3 k hk2] at hcc; exact hF2.fz k cc tt z hk hcc
   ·exact hfz3 k cc tt z (by omega) hcc
  obtain ⟨o0, o1, o2, o3, o4, o5, o6, o7, o8⟩ := zJk hA3
  have hl3 : w3.heap[s + 2 + 1]? = some (.loop r) := (hold3 _ (by omega)).trans hl2
  have hD3 : w3.heap[s + 2]? = some (.deferred (some [])) := (hold3 _ (by omega)).trans hD2
  have hW3 : ∃ d2, FO W (zFG w3 s d3) av s es.length c a d2 ∧ (ro (List.drop (es.length - (i + 1)) g) t).Is d2 ∧ Own W.heap.size (zFG w3 s d3).heap.size d2 := by
   refine ⟨d3, hF3.set hG3 hA3, ?_, by rw [qv]; exact hO3⟩
   have hh := zFM t hp
   rw [show es.length - 1 - i + 1 = es.length - i by omega] at hh
   rw [show es.length - (i + 1) = es.length - 1 - i by omega, hh]
   exact hd3
  have hl4 : (zFG w3 s d3).heap[s + 2 + 1]? = some (.loop r) := (xK (by omega)).trans hl3
  have hD4 : (zFG w3 s d3).heap[s + 2]? = some (.deferred (some [])) := (xK (by omega)).trans hD3
  have hth := zPf hF3.b5
  simp only []
  rename_i hK
  refine hK _ _ ?_
  refine pj (P := Tryz.prog) ?_ 36 (.tmp 5) (.tmp 19) ?_ s 0 #[(d3.cell 0).cv, (d3.cell 1).cv, (d3.cell 2).cv, (d3.cell 3).cv, (d3.cell 4).cv, (d3.cell 5).cv, (d3.cell 6).cv, (d3.cell 7).cv, (d3.cell 8).cv] ?_ ?_ hth ?_ (by simp [o0, o1, o2, o3, o4, o5, o6, o7, o8]) ?_
  ·rfl
  ·rfl
  ·rfl
  ·rfl
  ·rfl
  rw [zO8]
  generalize zFG w3 s d3 = w4 at hl4 hD4 hW3 ⊢
  gi_wp2
 ·rintro w ⟨d2, hF, h1, h2⟩ hD
  rw [hZs] at hD
  have f4 : ∀ i, w.frozen? ⟨W.heap.size + 1, i, none⟩ = false := fun i => by simp [World.frozen?, hF.b4]
  have c50 : w.cell? ⟨s, 0, none⟩ = some (d2.cell 0).cv := FG.cell (W := w) hF.b5
  have c51 : w.cell? ⟨s, 1, none⟩ = some (d2.cell 1).cv := FG.cell (W := w) hF.b5
  have c52 : w.cell? ⟨s, 2, none⟩ = some (d2.cell 2).cv := FG.cell (W := w) hF.b5
  have c53 : w.cell? ⟨s, 3, none⟩ = some (d2.cell 3).cv := FG.cell (W := w) hF.b5
  have c54 : w.cell? ⟨s, 4, none⟩ = some (d2.cell 4).cv := FG.cell (W := w) hF.b5
  have c55 : w.cell? ⟨s, 5, none⟩ = some (d2.cell 5).cv := FG.cell (W := w) hF.b5
  have c56 : w.cell? ⟨s, 6, none⟩ = some (d2.cell 6).cv := FG.cell (W := w) hF.b5
  have c57 : w.cell? ⟨s, 7, none⟩ = some (d2.cell 7).cv := FG.cell (W := w) hF.b5
  have c58 : w.cell? ⟨s, 8, none⟩ = some (d2.cell 8).cv := FG.cell (W := w) hF.b5
  have c40 : w.cell? ⟨W.heap.size + 1, 0, none⟩ = some (.int .i64 0) := FG.cell (W := w) hF.b4
  have c41 : w.cell? ⟨W.heap.size + 1, 1, none⟩ = some (.string ⟨#[]⟩) := FG.cell (W := w) hF.b4
  have c42 : w.cell? ⟨W.heap.size + 1, 2, none⟩ = some (.string ⟨#[]⟩) := FG.cell (W := w) hF.b4
  have c43 : w.cell? ⟨W.heap.size + 1, 3, none⟩ = some (.int .i64 0) := FG.cell (W := w) hF.b4
  have c44 : w.cell? ⟨W.heap.size + 1, 4, none⟩ = some (.int .i64 0) := FG.cell (W := w) hF.b4
  have c45 : w.cell? ⟨W.heap.size + 1, 5, none⟩ = some (.slice none 0 0) := FG.cell (W := w) hF.b4
  have c46 : w.cell? ⟨W.heap.size + 1, 6, none⟩ = some (.int .i64 0) := FG.cell (W := w) hF.b4
  have c47 : w.cell? ⟨W.heap.size + 1, 7, none⟩ = some (.slice none 0 0) := FG.cell (W := w) hF.b4
  have c48 : w.cell? ⟨W.heap.size + 1, 8, none⟩ = some (.slice none 0 0) := FG.cell (W := w) hF.b4
  obtain ⟨o0, o1, o2, o3, o4, o5, o6, o7, o8⟩ := zJk hF.ag
  gi_wp2
  have hlo := hF.lo
  have hsz := hF.size
  have hDs : s + 2 < w.heap.size := (Array.getElem?_eq_some_iff.1 hD).1
  have hD2 : (zFG w (W.heap.size + 1) d2).heap[s + 2]? = some (.deferred (some [])) := (xK (by omega)).trans hD
  rw [hZs]
  change bodyPostM _ _ _ _ _ _ _ (zFG w (W.heap.size + 1) d2)
  refine ⟨by simp, .inl ⟨_, _, rfl, run_takeDeferred hD2, ?_⟩⟩
  obtain ⟨w5, hw5⟩ : ∃ w5, w5 = (zFG w (W.heap.size + 1) d2).putObj (s + 2) (.deferred none) := ⟨_, rfl⟩
  rw [← hw5]
  have key : ∀ k, k ≠ W.heap.size + 1 → k ≠ s + 2 → w5.heap[k]? = w.heap[k]? := fun k h1 h2 => by
   rw [hw5, World.putObj_heap_other h2, xK h1]
  have h4 : w5.heap[W.heap.size + 1]? = some (.cells #[(d2.cell 0).cv, (d2.cell 1).cv, (d2.cell 2).cv, (d2.cell 3).cv, (d2.cell 4).cv, (d2.cell 5).cv, (d2.cell 6).cv, (d2.cell 7).cv, (d2.cell 8).cv] 36 (0, 0)) := by
   rw [hw5, World.putObj_heap_other (by omega), zDZ hF.b4]
  have h55 : w5.heap[s + 2]? = some (.deferred none) := by
   rw [hw5]; exact World.putObj_heap_same (by rw [qv]; omega)
  have hs5 : w5.heap.size = w.heap.size := by rw [hw5]; simp [qv]
  have ho5 : w5.os = W.os := by rw [hw5, zLf, set9_os]; exact hF.os
  have hu5 : w5.output = W.output := by rw [hw5, zKa, set9_out]; exact hF.out
  have hbl : ∀ b ∈ d2.foot, b ≠ s + 2 := fun b hb hbs => by
   obtain ⟨c, t, z, hc⟩ := hF.hd.1.block b hb
   rw [hbs, hD] at hc; cases hc
  refine ⟨_, zQx rfl h4 rfl, d2, rfl, by simpa using h1, by rw [hs5]; exact h2, ⟨hF.hd.1.mono fun b hb => key b (fun hbs => hF.hd.2 b hb (by simp [hbs])) (hbl b hb), fun b hb hbb => hF.hd.2 b hb (.inl hbb)⟩, hF.ag, by omega, fun k hk => (key k (by omega) (by omega)).trans (hF.old k hk), fun k cc tt z hk hcc => ?_, ho5, hu5⟩
  by_cases hk1 : k = W.heap.size + 1
  ·subst hk1; rw [h4] at hcc; cases hcc; rfl
  ·by_cases hk2 : k = s + 2
   ·subst hk2; rw [h55] at hcc; cases hcc
   ·rw [key k hk1 hk2] at hcc; exact hF.fz k cc tt z hk hcc
 ·rintro k w hk hf
  exact hf.elim
end Go.Proofs.YtfkmegifjiiclaaGreat

/- Functions of parameters: the contract. -/
set_option linter.unusedVariables false
set_option linter.unusedSimpArgs false
namespace Go.Proofs.YtfkmegifjiiclaaGreat
open Go Go.Proofs Go.Proofs.Tryz Go.IntWalk

theorem zAI {g : List Pm} {es : List D} (h : Pms g es) (hg : g.length ≤ 1073741824) (hW : pmW g ≤ 536870000) {t : Tm} {d : D} (ht : t.Is d) (hc : t.cnt ≤ 536870000) (a : Option Addr) (c : Nat) : Cop 67 9 [.sv a 4 es c, .dg 9 d] (ro g t).Is := fun N Q hQ => by
 refine ⟨by kernel_rfl, fun av w0 hN hav harg => ?_⟩
 subst hN
 have hG : Good w0 av (.sl a 4 es c) := (harg _ (List.mem_cons_self ..)).1
 have h2 := (harg (.dg 9 d) (by simp)).1
 simp only [PV.Ok] at h2
 obtain ⟨hGd, hA⟩ := h2
 have hval : (([PV.sv a 4 es c, .dg 9 d] : List PV).map (PV.val [])).toArray = #[.slice a es.length c, .agg #[(d.cell 0).cv, (d.cell 1).cv, (d.cell 2).cv, (d.cell 3).cv, (d.cell 4).cv, (d.cell 5).cv, (d.cell 6).cv, (d.cell 7).cv, (d.cell 8).cv]] := by
  simp [PV.val, PV.val1, PV.cv, zPs hA]
 rw [hval]
 refine (callsIn_wide.1 (zQn 5 (by omega) h hg hW ht hc a c av w0 hav hG hGd hA)).mono fun e w hr => ?_
 obtain ⟨r, rfl, hI, hO, hGr, hAr, hsz, hold, hfz, hos, hout⟩ := hr
 refine ⟨[.dg 9 r], [], [], {
  q := ⟨rfl, hQ _ _ hsz hI hO⟩
  v := by simp [zNj, zL0, zMS, PV.val1, zPs hAr]
  m := { el := rfl, br := fun k B hk _ => by simp at hk, bo := fun k B hk _ => by simp at hk, bf := fun k B hk _ => by simp at hk, inj := fun i j b hi _ => by obtain ⟨_, _, B, h3, _⟩ := hi; simp at h3 }
  ok := fun p hp => by
   simp at hp; subst hp
   refine ⟨⟨hGr.1, fun b hb hl => ?_⟩, hAr⟩
   rcases hl with hl | hl
   ·exact hGr.2 b hb hl
   ·obtain ⟨k, _, _, B, h3, _⟩ := hl; simp at h3
  fresh := fun k b hb => by simp [Env.at] at hb
  size := hsz
  old := hold
  fz := hfz
  ku := ⟨hos, hout⟩ }⟩
theorem zNy {m : Nat} : ∀ {g : List Pm}, (∀ x ∈ g, x.ty.cnt ≤ m) → pmW g ≤ g.length * (2 + m)
 | [], _ => by simp [pmW]
 | x :: g, h => by
   have h1 := zNy (g := g) fun y hy => h y (by simp [hy])
   have h2 := h x (by simp)
   simp only [pmW, List.length_cons, Nat.add_mul (n := g.length), Nat.one_mul]
   omega
theorem zMX {g : List Pm} (h : rS g = true) : g.length ≤ 5 := by simp [rS] at h; exact h.2
theorem zA6 {g : List Pm} (hp : rS g = true) (hc : ∀ x ∈ g, x.ty.cnt ≤ 2000000) : pmW (sC g) ≤ 10000010 := by
 have h1 := zNy (g := sC g) (m := 2000000) fun x hx => hc x (List.mem_filter.1 hx).1
 have h2 := wX g
 have h3 := zMX hp
 have h4 := Nat.mul_le_mul_right (2 + 2000000) (Nat.le_trans h2 h3)
 omega
end Go.Proofs.YtfkmegifjiiclaaGreat
