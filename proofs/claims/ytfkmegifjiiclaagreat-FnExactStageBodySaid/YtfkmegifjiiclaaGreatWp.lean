/- Which parts of a body depend on late parameters: the reference. -/
import Derived.Test.YtfkmegifjiiclaaGreatWm
import Derived.Test.YtfkmegifjiiclaaGreatWo
import Derived.Test.YtfkmegifjiiclaaGreatWr
import Derived.Test.YtfkmegifjiiclaaGreatWl
set_option linter.unusedVariables false
set_option linter.unusedSimpArgs false
namespace Go.Proofs.YtfkmegifjiiclaaGreat
open Go Go.Proofs Go.Proofs.Tryz Go.IntWalk

/-- a name and whether it comes late -/
abbrev Bd := ByteArray × Bool
def bdD (b : Bd) : D := .ag [.lit (.string b.1), .lit (.bool b.2)]
def lastB (nm : ByteArray) (v : List Bd) : Option Bool := (v.reverse.find? fun p => decide (p.1 = nm)).map (·.2)
theorem lastB_snoc {nm : ByteArray} {v : List Bd} {b : Bd} : lastB nm (v ++ [b]) = if b.1 = nm then some b.2 else lastB nm v := by
 unfold lastB
 rw [List.reverse_append]
 by_cases h : b.1 = nm <;> simp [h]
mutual
def Tm.late : Tm → List Bd → Bool
 | .mk k nm _ _ _ _ l, v => if k = 1 then (lastB nm v).getD (tmsLate l v) else if k = 8 then tmsLet l nm v else tmsLate l v
def tmsLate : List Tm → List Bd → Bool
 | [], _ => false
 | t :: ts, v => t.late v || tmsLate ts v
def tmsLet : List Tm → ByteArray → List Bd → Bool
 | [], _, _ => false
 | t :: ts, nm, v => t.late v || tmsLate ts (v ++ [(nm, t.late v)])
end

/-- returns these bindings -/
def RetE (f : FuncId) (args : List PV) (v : List Bd) : Prop := ∀ (N : Nat) (Q : QT [.sl 2]), (∀ a c N', N ≤ N' → Q a (v.map bdD) c N') → ACalls prog f [.sl 2] args N Q
theorem c_l16With (v : List Bd) (hv : v.length ≤ 1073741824) (a : Option Addr) (c : Nat) (s : ByteArray) (b : Bool) : RetE 92 [.sv a 2 (v.map bdD) c, .str s, .bool b] (v ++ [(s, b)]) := fun N Q hQ => by
 refine w_spec_l16With N a _ c s b Q fun _ => ⟨⟨rfl, rfl⟩, ?_, fun c1 => ⟨⟨rfl, rfl⟩, ?_, fun c2 => ⟨⟨rfl, rfl⟩, ⟨rfl, rfl⟩, fun a2 N1 hN1 _ N2 hN2 => ?_⟩⟩⟩
 ·unfold apBound; simp; omega
 ·unfold apBound; simp; omega
 ·have := hQ a2 c2 N2 (by omega)
  rw [List.map_append] at this
  exact this
def envOf (g : List Pm) : List Bd := g.map fun p => (p.nm, p.dy)
theorem envOf_len (g : List Pm) : (envOf g).length = g.length := by simp [envOf]
theorem c_l16Env {g : List Pm} {es : List D} (h : Pms g es) (hg : g.length ≤ 1073741824) (a : Option Addr) (c : Nat) : RetE 41 [.sv a 4 es c] (envOf g) := fun N Q hQ => by
 have hl := h.all.len
 refine w_spec_l16Env N a es c Q fun _ => ?_
 have key := up h.all h.len (fun i xs => ∀ (q : Nat) (N' : Nat), N ≤ N' → L_spec_l16Env_3 Q N a es c ((envOf g).take i).length q i (((envOf g).take i).map bdD) q N') ?_ ?_
 ·exact key 0 N (Nat.le_refl _)
 ·intro i hlt hi q N' hN'
  refine l_spec_l16Env_3 _ _ _ _ _ _ _ _ _ _ _ ?_
  rw [List.take_of_length_le (by rw [envOf_len]; omega)]
  have hml : ((envOf g).map bdD).length = (envOf g).length := by simp
  repeat' first|with_reducible intro _|simp only[hlt, hml,Y1,Y2,Y3,Y4]|(with_reducible first|refine X1 ?_ ?_|refine X2 ?_ ?_|refine X3 ?_ ?_|refine X4 ?_ ?_|refine X5 ?_ ?_|refine X6 ?_ ?_|refine X7 ?_ ?_|refine X8 ?_ ?_|refine X9 ?_ ?_)|refine⟨_,_,_,rfl,?_⟩|refine⟨_,rfl,?_⟩|((with_reducible refine And.intro ?_ ?_);·first|omega|trivial|(show _=_;rfl)|((with_reducible refine And.intro ?_ ?_)<;>first|omega|trivial|(show _=_;rfl)))|fail
  exact hQ _ _ _ (by omega)
 ·intro i x xs hat _ ih2 q N' hN'
  have hb := hat.b
  have hm := hat.m
  obtain ⟨t0, t1, hd', hnm, hty⟩ := hat.r
  refine l_spec_l16Env_3 _ _ _ _ _ _ _ _ _ _ _ ?_
  have hat2 : (envOf g)[i]? = some (x.nm, x.dy) := by rw [envOf, List.getElem?_map, hat.g]; rfl
  have hml : (((envOf g).take i).map bdD).length = ((envOf g).take i).length := by simp
  have hsn : ((envOf g).take i).map bdD ++ [D.ag [.lit (.string x.nm), .lit (.bool x.dy)]] = ((envOf g).take (i + 1)).map bdD := by rw [take_at hat2, List.map_append]; rfl
  have hml2 : (((envOf g).take (i + 1)).map bdD).length = ((envOf g).take (i + 1)).length := by simp
  have hti : ((envOf g).take (i + 1)).length ≤ i + 1 := by rw [List.length_take]; omega
  repeat' first|with_reducible intro _|simp only[hat.lt, hat.w, Int.toNat_natCast, hd', hml, if_true, eq_self,Y1,Y2,Y3,Y4]|(with_reducible first|refine X1 ?_ ?_|refine X2 ?_ ?_|refine X3 ?_ ?_|refine X4 ?_ ?_|refine X5 ?_ ?_|refine X6 ?_ ?_|refine X7 ?_ ?_|refine X8 ?_ ?_|refine X9 ?_ ?_)|refine⟨_,_,_,rfl,?_⟩|refine⟨_,rfl,?_⟩|((with_reducible refine And.intro ?_ ?_);·first|omega|trivial|(show _=_;rfl)|((with_reducible refine And.intro ?_ ?_)<;>first|omega|trivial|(show _=_;rfl)))|fail
  refine ⟨by unfold apBound; rw [hsn, hml2]; omega, fun c1 => ?_⟩
  rw [hsn, hml2]
  exact ih2 _ _ hN'
end Go.Proofs.YtfkmegifjiiclaaGreat

/- Which parts of a body depend on late parameters: the reference's walk. -/
set_option linter.unusedVariables false
set_option linter.unusedSimpArgs false
namespace Go.Proofs.YtfkmegifjiiclaaGreat
open Go Go.Proofs Go.Proofs.Tryz Go.IntWalk

theorem bd_get {v : List Bd} {i : Nat} {b : Bd} (h : v[i]? = some b) : (v.map bdD).getD i default = bdD b := by simp [List.getD_eq_getElem?_getD, h]
theorem two_parts {l : List Tm} {es : List D} (h : All2 Tm.Is l es) (hl : (l.length : Int) = 2) : ∃ x0 x1 d0 d1, l = [x0, x1] ∧ es = [d0, d1] ∧ x0.Is d0 ∧ x1.Is d1 := by
 have he := h.len
 match l, es, h with
 | [x0, x1], es, ⟨d0, ds, e1, h0, d1, ds2, e2, h1, e3⟩ => subst e3; subst e2; subst e1; exact ⟨x0, x1, d0, d1, rfl, rfl, h0, h1⟩
 | [], _, _ => simp at hl
 | [_], _, _ => simp at hl
 | _ :: _ :: _ :: _, _, _ => simp at hl; omega
theorem tmsB_mem : ∀ {l : List Tm} {x : Tm}, tmsB l = true → x ∈ l → x.isB = true
 | t :: ts, x, h, hx => by
   simp only [tmsB, Bool.and_eq_true] at h
   rcases List.mem_cons.1 hx with rfl | hx
   ·exact h.1
   ·exact tmsB_mem h.2 hx
theorem three_parts {l : List Tm} {es : List D} (h : All2 Tm.Is l es) (hl : (l.length : Int) = 3) : ∃ x0 x1 x2 d0 d1 d2, l = [x0, x1, x2] ∧ es = [d0, d1, d2] ∧ x0.Is d0 ∧ x1.Is d1 ∧ x2.Is d2 := by
 match l, es, h with
 | [x0, x1, x2], es, ⟨d0, ds, e1, h0, d1, ds2, e2, h1, d2, ds3, e3, h2, e4⟩ => subst e4; subst e3; subst e2; subst e1; exact ⟨x0, x1, x2, d0, d1, d2, rfl, rfl, h0, h1, h2⟩
 | [], _, _ => simp at hl
 | [_], _, _ => simp at hl
 | [_, _], _, _ => simp at hl
 | _ :: _ :: _ :: _ :: _, _, _ => simp at hl; omega
theorem Tm.cnt_pos (t : Tm) : 1 ≤ t.cnt := by cases t; simp only [Tm.cnt]; omega
theorem c_l16Late : ∀ (t : Tm) (d : D), t.Is d → t.ok = true → ∀ (v : List Bd) (a : Option Addr) (c : Nat), v.length + t.cnt ≤ 1073741824 → RetB 89 [.dg 9 d, .sv a 2 (v.map bdD) c] (t.late v) := by
 refine Tm.ind fun k nm ot n0 ty re l ih d hd hok v a c hc N Q hQ => ?_
 obtain ⟨t0, t1, r0, r1, a1, es, c1, rfl, hh, hlen, hes⟩ := Tm.is_mk.1 hd
 have node := node_of hok
 simp only [Tm.cnt] at hc
 have hvl : (v.map bdD).length = v.length := by simp
 -- the parts, one behind another
 have parts : ∀ (Q : QT [.bool]) (N0 : Nat) (N1 : Nat), (∀ N', N1 ≤ N' → Q (tmsLate l v) N') → L_spec_l16Late_12 Q N0 a (v.map bdD) c 0 (.ag [.lit (.int .i64 k), .lit (.string nm), .lit (.string ot), .lit (.int .i64 n0), t0, t1, r0, r1, .sl a1 9 es c1]) N1 := by
  intro Q N0 N1 hQ
  refine up hes hlen (fun i xs => ∀ (N' : Nat), N1 ≤ N' → (∀ N'', N' ≤ N'' → Q (tmsLate xs v) N'') → L_spec_l16Late_12 Q N0 a (v.map bdD) c i (.ag [.lit (.int .i64 k), .lit (.string nm), .lit (.string ot), .lit (.int .i64 n0), t0, t1, r0, r1, .sl a1 9 es c1]) N') ?_ ?_ N1 (Nat.le_refl _) hQ
  ·intro i hlt _ N' hN' hQ'
   refine l_spec_l16Late_12 _ _ _ _ _ _ _ _ ?_
   repeat' first|with_reducible intro _|simp only[hlt,Y1,Y2,Y3,Y4]|(with_reducible first|refine X1 ?_ ?_|refine X2 ?_ ?_|refine X3 ?_ ?_|refine X4 ?_ ?_|refine X5 ?_ ?_|refine X6 ?_ ?_|refine X7 ?_ ?_|refine X8 ?_ ?_|refine X9 ?_ ?_)|refine⟨_,_,_,rfl,?_⟩|refine⟨_,rfl,?_⟩|((with_reducible refine And.intro ?_ ?_);·first|omega|trivial|(show _=_;rfl)|((with_reducible refine And.intro ?_ ?_)<;>first|omega|trivial|(show _=_;rfl)))|fail
   exact hQ' _ (by omega)
  ·intro i x xs hat _ ih2 N' hN' hQ'
   have hb := hat.b
   have hxc := tms_mem_cnt hat.m
   simp only [tmsLate] at hQ'
   refine l_spec_l16Late_12 _ _ _ _ _ _ _ _ ?_
   repeat' first|with_reducible intro _|simp only[hat.lt, hat.w, Int.toNat_natCast,Y1,Y2,Y3,Y4]|(with_reducible first|refine X1 ?_ ?_|refine X2 ?_ ?_|refine X3 ?_ ?_|refine X4 ?_ ?_|refine X5 ?_ ?_|refine X6 ?_ ?_|refine X7 ?_ ?_|refine X8 ?_ ?_|refine X9 ?_ ?_)|refine⟨_,_,_,rfl,?_⟩|refine⟨_,rfl,?_⟩|((with_reducible refine And.intro ?_ ?_);·first|omega|trivial|(show _=_;rfl)|((with_reducible refine And.intro ?_ ?_)<;>first|omega|trivial|(show _=_;rfl)))|refine (ih x hat.m _ hat.r (node.sub x hat.m) v a c (by omega)) _ _ ?_|fail
   ·rename_i h _ _
    exact Qb (hQ' _ (by omega)) (by rw [h]; rfl)
   ·rename_i h
    exact ih2 _ (by omega) fun N'' h2 => Qb (hQ' N'' (by omega)) (by rw [h]; rfl)
 -- the bindings, the last first
 have look : ∀ (hk : k = 1) (i : Nat), i ≤ v.length → ∀ N1, N ≤ N1 → (∀ N', N1 ≤ N' → Q ((lastB nm (v.take i)).getD (tmsLate l v)) N') → L_spec_l16Late_4 Q N a (v.map bdD) c ((i : Int) - 1) (.ag [.lit (.int .i64 k), .lit (.string nm), .lit (.string ot), .lit (.int .i64 n0), t0, t1, r0, r1, .sl a1 9 es c1]) N1 := by
  intro hk i
  induction i with
  | zero =>
    intro hi N1 hN1 hQ1
    refine l_spec_l16Late_4 _ _ _ _ _ _ _ _ ?_
    have e : decide (((0 : Nat) : Int) - 1 ≥ 0) = false := by simp
    repeat' first|with_reducible intro _|simp only[e,Y1,Y2,Y3,Y4]|(with_reducible first|refine X1 ?_ ?_|refine X2 ?_ ?_|refine X3 ?_ ?_|refine X4 ?_ ?_|refine X5 ?_ ?_|refine X6 ?_ ?_|refine X7 ?_ ?_|refine X8 ?_ ?_|refine X9 ?_ ?_)|refine⟨_,_,_,rfl,?_⟩|refine⟨_,rfl,?_⟩|((with_reducible refine And.intro ?_ ?_);·first|omega|trivial|(show _=_;rfl)|((with_reducible refine And.intro ?_ ?_)<;>first|omega|trivial|(show _=_;rfl)))|fail
    exact parts Q N N1 fun N' h => Qb (hQ1 N' h) rfl
  | succ i ihi =>
    intro hi N1 hN1 hQ1
    have hlt : i < v.length := by omega
    have hg : v[i]? = some v[i] := List.getElem?_eq_getElem hlt
    have hgd := bd_get hg
    refine l_spec_l16Late_4 _ _ _ _ _ _ _ _ ?_
    have e0 : (((i + 1 : Nat) : Int) - 1) = (i : Int) := by omega
    have e : decide ((i : Int) ≥ 0) = true := decide_eq_true (by omega)
    have ew : IntKind.i64.wrap ((i : Int) - 1) = (i : Int) - 1 := i64_in _ (by omega)
    rw [e0]
    rw [take_at hg, lastB_snoc] at hQ1
    repeat' first|with_reducible intro _|simp only[e, ew, Int.toNat_natCast, hgd, bdD, if_true, eq_self,Y1,Y2,Y3,Y4]|(with_reducible first|refine X1 ?_ ?_|refine X2 ?_ ?_|refine X3 ?_ ?_|refine X4 ?_ ?_|refine X5 ?_ ?_|refine X6 ?_ ?_|refine X7 ?_ ?_|refine X8 ?_ ?_|refine X9 ?_ ?_)|refine⟨_,_,_,rfl,?_⟩|refine⟨_,rfl,?_⟩|((with_reducible refine And.intro ?_ ?_);·first|omega|trivial|(show _=_;rfl)|((with_reducible refine And.intro ?_ ?_)<;>first|omega|trivial|(show _=_;rfl)))|fail
    ·rename_i hs _ _
     exact Qb (hQ1 _ (by omega)) (by rw [if_pos hs]; rfl)
    ·rename_i hs
     exact ihi (by omega) N1 (by omega) fun N' h => Qb (hQ1 N' h) (by rw [if_neg hs])
 refine w_spec_l16Late N _ a _ c Q fun _ _ => ?_
 simp only [Tm.late] at hQ
 refine ⟨_, rfl, Br.beq (fun hk => ?_) fun hk => Br.beq (fun hk8 => ?_) fun hk8 => ?_⟩
 ·rw [if_pos hk] at hQ
  rw [hvl, i64_in _ (by omega)]
  exact look hk v.length (Nat.le_refl _) N (Nat.le_refl _) (by rw [List.take_length]; exact hQ)
 ·rw [if_neg hk, if_pos hk8] at hQ
  have har := node.ar
  subst hk8
  rw [show arOf 8 nm = 2 from rfl] at har
  obtain ⟨x0, x1, d0, d1, rfl, rfl, h0, h1⟩ := two_parts hes har
  simp only [tmsCnt] at hc
  simp only [tmsLet, tmsLate, Bool.or_false] at hQ
  have hp0 := x0.cnt_pos
  refine ⟨_, _, _, rfl, ⟨by omega, by simp⟩, fun N1 hN1 => ?_⟩
  refine ih x0 (by simp) d0 h0 (node.sub _ (by simp)) v a c (by omega) N1 _ fun N2 hN2 _ => Br.of (fun hb N3 hN3 => ?_) fun hb => ?_
  ·exact Qb (hQ _ (by omega)) (by rw [hb]; rfl)
  ·refine ⟨_, _, _, rfl, ⟨by omega, by simp⟩, _, rfl, fun N4 hN4 => ?_⟩
   refine c_l16With v (by omega) a c nm _ N4 _ fun a2 c2 N5 hN5 _ _ N6 hN6 => ?_
   refine ih x1 (by simp) d1 h1 (node.sub _ (by simp)) _ a2 c2 (by simp; omega) N6 _ fun N7 hN7 _ N8 hN8 => ?_
   exact Qb (hQ _ (by omega)) (by rw [hb]; simp)
 ·rw [if_neg hk, if_neg hk8] at hQ
  exact parts Q N N hQ
theorem bodyTy_some {g : List Pm} {e : Tm} (h : (bodyTy g e).isSome = true) : pmsOk g = true ∧ e.vd = true ∧ e.isB = true := by
 unfold bodyTy at h
 split at h
 ·assumption
 ·cases h
theorem vd_ok {e : Tm} (h : e.vd = true) : e.ok = true := by
 simp only [Tm.vd, Bool.and_eq_true] at h
 exact h.2
end Go.Proofs.YtfkmegifjiiclaaGreat

/- Which parts of a body depend on late parameters: the program. -/
set_option linter.unusedVariables false
set_option linter.unusedSimpArgs false
namespace Go.Proofs.YtfkmegifjiiclaaGreat
open Go Go.Proofs Go.Proofs.Tryz Go.IntWalk

def plB (p : Pl) : Bd := (p.1, p.2.2)
theorem findP_late (nm : ByteArray) (v : List Pl) : (findP nm v).2.2 = (lastB nm (v.map plB)).getD false := by
 unfold findP lastB
 rw [← List.map_reverse, List.find?_map]
 generalize v.reverse = u
 induction u with
 | nil => rfl
 | cons x u ih =>
   by_cases h : x.1 = nm
   ·simp [plB, h]
   ·simp only [List.find?_cons, Function.comp, plB, h, decide_false] at ih ⊢
    exact ih
theorem pl_foot : ∀ v : List Pl, footL (v.map plD) = []
 | [] => rfl
 | b :: v => by simp only [List.map_cons, footL, pl_foot v]; rfl
theorem pl_flat : ∀ v : List Pl, flat0L (v.map plD)
 | [] => trivial
 | b :: v => ⟨⟨trivial, trivial, trivial, trivial⟩, pl_flat v⟩
theorem own_pls {N N' : Nat} (v : List Pl) : OwnL N N' (v.map plD) := ⟨by rw [pl_foot]; simp, pl_flat v, by rw [pl_foot]; simp, by rw [pl_foot]; simp⟩
/-- returns these places, its own or those handed in -/
def RetP (f : FuncId) (args : List PV) (v : List Pl) : Prop := ∀ (N : Nat) (Q : QT [.sl 3]), (∀ a c N', N ≤ N' → Q a (v.map plD) c N') → ACalls prog f [.sl 3] args N Q
theorem c_clonePl (v : List Pl) (hv : v.length ≤ 1073741824) (a : Option Addr) (c : Nat) (N : Nat) (Q : QT [.row 121 3]) (hQ : ∀ c' N', N ≤ N' → Q (v.map plD) c' N') : ACalls prog 150 [.row 121 3] [.sv a 3 (v.map plD) c] N Q := by
 have main : (a = none → v.map plD = []) → ACalls prog 150 [.row 121 3] [.sv a 3 (v.map plD) c] N Q := fun hn => by
  refine w_slices_Clone_place_places N a _ c Q fun _ => Br.of (fun hi N1 hN1 => ?_) fun _ => ⟨⟨rfl, rfl⟩, ?_, fun c2 => ⟨⟨rfl, rfl⟩, fun N2 hN2 => ?_⟩⟩
  ·have := hn (by simpa using hi)
   have h2 := hQ 0 N1 hN1
   rwa [this] at h2
  ·unfold apBound; simp; omega
  ·exact hQ _ _ hN2
 cases a with
 | some ad => exact main (by simp)
 | none =>
   by_cases hne : v.map plD = []
   ·exact main fun _ => hne
   ·exact ac_nil (z := 3) (c := c) (es := v.map plD) (by kernel_rfl) (by simp) hne
theorem c_and (v : List Pl) (hv : v.length ≤ 1073741824) (p : Pl) (a : Option Addr) (c : Nat) (N : Nat) (Q : QT [.sl 3]) (hQ : ∀ a' c' N', N ≤ N' → Own N N' (.sl a' 3 ((v ++ [p]).map plD) c') → Q a' ((v ++ [p]).map plD) c' N') :
  ACalls prog 101 [.sl 3] [.sv a 3 (v.map plD) c, .dg 3 (plD p)] N Q := by
 refine w_impl_places_and N a _ c _ Q fun _ _ N1 hN1 => ?_
 refine c_clonePl v hv a c N1 _ fun c2 N2 hN2 _ _ => ⟨⟨rfl, rfl⟩, ?_, fun c3 => ⟨⟨rfl, rfl⟩, ⟨rfl, rfl⟩, fun a3 N3 hN3 hf N4 hN4 => ?_⟩⟩
 ·unfold apBound; simp; omega
 ·have e : v.map plD ++ [plD p] = (v ++ [p]).map plD := by simp
  rw [e] at hf ⊢
  exact hQ _ _ _ (by omega) ((own_sl (N1 := N3) (own_pls _) hf (Nat.le_refl _)).mono (Nat.le_refl _) hN4)
/-- the parts behind a let's first know its name -/
def insideP (k : Int) (nm : ByteArray) (b : Bool) (v : List Pl) (i : Nat) : List Pl := if k = 8 ∧ i ≠ 0 then v ++ [(nm, 0, b)] else v
theorem c_inside {k : Int} {nm ot : ByteArray} {n0 : Int} {t0 t1 r0 r1 : D} {a1 : Option Addr} {es : List D} {c1 : Nat} (v : List Pl) (hv : v.length ≤ 1073741824) (a : Option Addr) (c : Nat) (i : Nat) (b : Bool)
  (hes : k = 8 → es ≠ []) (ih : k = 8 → RetB 102 [.sv a 3 (v.map plD) c, .dg 9 (es.getD 0 default)] b) :
  RetP 106 [.sv a 3 (v.map plD) c, .dg 9 (.ag [.lit (.int .i64 k), .lit (.string nm), .lit (.string ot), .lit (.int .i64 n0), t0, t1, r0, r1, .sl a1 9 es c1]), .int .i64 i] (insideP k nm b v i) := fun N Q hQ => by
 refine w_impl_places_inside N a _ c _ i Q fun _ _ => ⟨_, rfl, Br.bne (fun hk N1 hN1 => ?_) fun hk => Br.beq (fun hi N2 hN2 => ?_) fun hi => ?_⟩
 ·rw [insideP, if_neg (by simp [hk])] at hQ; exact hQ _ _ _ hN1
 ·rw [insideP, if_neg (by simp; omega)] at hQ; exact hQ _ _ _ hN2
 ·rw [insideP, if_pos ⟨hk, by omega⟩] at hQ
  have hne := List.length_pos_iff.2 (hes hk)
  refine ⟨_, rfl, _, _, _, rfl, ⟨by omega, by omega⟩, fun N3 hN3 => ?_⟩
  refine ih hk N3 _ fun N4 hN4 _ N5 hN5 => ?_
  refine c_and v hv (nm, 0, b) a c N5 _ fun a2 c2 N6 hN6 _ _ _ N7 hN7 => ?_
  exact hQ _ _ _ (by omega)
theorem c_isDynamic : ∀ (t : Tm) (d : D), t.Is d → t.ok = true → ∀ (v : List Pl) (a : Option Addr) (c : Nat), v.length + t.cnt ≤ 1073741824 → RetB 102 [.sv a 3 (v.map plD) c, .dg 9 d] (t.late (v.map plB)) := by
 refine Tm.ind fun k nm ot n0 ty re l ih d hd hok v a c hc N Q hQ => ?_
 obtain ⟨t0, t1, r0, r1, a1, es, c1, rfl, hh, hlen, hes⟩ := Tm.is_mk.1 hd
 have node := node_of hok
 simp only [Tm.cnt] at hc
 have hvl : (v.map plD).length = v.length := by simp
 refine w_impl_places_isDynamic N a _ c _ Q fun _ _ => ?_
 simp only [Tm.late] at hQ
 refine ⟨_, rfl, Br.beq (fun hk => ?_) fun hk => ?_⟩
 ·rw [if_pos hk] at hQ
  have har := node.ar
  subst hk
  rw [show arOf 1 nm = 0 from rfl] at har
  have hl0 : l = [] := List.eq_nil_of_length_eq_zero (by omega)
  subst hl0
  refine ⟨_, rfl, fun N1 hN1 => ?_⟩
  refine c_find v a c nm (by omega) N1 _ fun N2 hN2 _ _ => ⟨_, rfl, fun N3 hN3 => ?_⟩
  exact Qb (hQ _ (by omega)) (by rw [findP_late]; rfl)
 ·rw [if_neg hk] at hQ
  refine ⟨_, _, _, rfl, ?_⟩
  have hlp : k = 8 → ∃ x0 x1, l = [x0, x1] := fun h8 => by
   have har := node.ar
   subst h8
   rw [show arOf 8 nm = 2 from rfl] at har
   obtain ⟨x0, x1, _, _, h, _⟩ := two_parts hes har
   exact ⟨x0, x1, h⟩
  have hd0 : ∀ x0 rest, l = x0 :: rest → x0.Is (es.getD 0 default) := fun x0 rest h => by
   refine hes.get (i := 0) ?_
   rw [h]; rfl
  obtain ⟨b0, hb0⟩ : ∃ b0, b0 = ((l.head?.map fun x0 => x0.late (v.map plB)).getD false) := ⟨_, rfl⟩
  have hv8 : v.length + 1 ≤ 1073741824 ∨ l = [] := by
   cases l with
   | nil => exact .inr rfl
   | cons x xs => left; simp only [tmsCnt] at hc; have := x.cnt_pos; omega
  refine up hes hlen (fun i xs => ∀ (N' : Nat), N ≤ N' → (i = 0 → xs = l) → (∀ N'', N' ≤ N'' → Q (if k = 8 then (if i = 0 then tmsLet xs nm (v.map plB) else tmsLate xs ((v ++ [(nm, 0, b0)]).map plB)) else tmsLate xs (v.map plB)) N'') →
   L_impl_places_isDynamic_4 Q N a (v.map plD) c a1 es c1 es.length i (.ag [.lit (.int .i64 k), .lit (.string nm), .lit (.string ot), .lit (.int .i64 n0), t0, t1, r0, r1, .sl a1 9 es c1]) N') ?_ ?_ N (Nat.le_refl _) (fun _ => rfl) (by simpa using hQ)
  ·intro i hlt _ N' hN' h0 hQ'
   refine l_impl_places_isDynamic_4 _ _ _ _ _ _ _ _ _ _ _ _ ?_
   repeat' first|with_reducible intro _|simp only[hlt,Y1,Y2,Y3,Y4]|(with_reducible first|refine X1 ?_ ?_|refine X2 ?_ ?_|refine X3 ?_ ?_|refine X4 ?_ ?_|refine X5 ?_ ?_|refine X6 ?_ ?_|refine X7 ?_ ?_|refine X8 ?_ ?_|refine X9 ?_ ?_)|refine⟨_,_,_,rfl,?_⟩|refine⟨_,rfl,?_⟩|((with_reducible refine And.intro ?_ ?_);·first|omega|trivial|(show _=_;rfl)|((with_reducible refine And.intro ?_ ?_)<;>first|omega|trivial|(show _=_;rfl)))|fail
   exact Qb (hQ' _ (by omega)) (by simp [tmsLate, tmsLet])
  ·intro i x xs hat _ ih2 N' hN' h0 hQ'
   have hb := hat.b
   have hxc := tms_mem_cnt hat.m
   refine l_impl_places_isDynamic_4 _ _ _ _ _ _ _ _ _ _ _ _ ?_
   have hins := c_inside (k := k) (nm := nm) (ot := ot) (n0 := n0) (t0 := t0) (t1 := t1) (r0 := r0) (r1 := r1) (a1 := a1) (es := es) (c1 := c1) v (by omega) a c i b0 (fun h8 hc => by
    have := hes.len; obtain ⟨x0, x1, hl⟩ := hlp h8; rw [hc, hl] at this; simp at this) (fun h8 => by
    obtain ⟨x0, x1, hl⟩ := hlp h8
    have hx0 : x0 ∈ l := by rw [hl]; simp
    have hcx := tms_mem_cnt hx0
    have hbe : b0 = x0.late (v.map plB) := by rw [hb0, hl]; rfl
    rw [hbe]
    exact ih x0 hx0 _ (hd0 x0 [x1] hl) (node.sub _ hx0) v a c (by omega))
   have hvl8 : (insideP k nm b0 v i).length + x.cnt ≤ 1073741824 := by
    unfold insideP
    split <;> first | (simp; omega) | omega
   repeat' first|with_reducible intro _|simp only[hat.lt, hat.w, Int.toNat_natCast,Y1,Y2,Y3,Y4]|(with_reducible first|refine X1 ?_ ?_|refine X2 ?_ ?_|refine X3 ?_ ?_|refine X4 ?_ ?_|refine X5 ?_ ?_|refine X6 ?_ ?_|refine X7 ?_ ?_|refine X8 ?_ ?_|refine X9 ?_ ?_)|refine⟨_,_,_,rfl,?_⟩|refine⟨_,rfl,?_⟩|((with_reducible refine And.intro ?_ ?_);·first|omega|trivial|(show _=_;rfl)|((with_reducible refine And.intro ?_ ?_)<;>first|omega|trivial|(show _=_;rfl)))|refine hins _ _ ?_|refine (ih x hat.m _ hat.r (node.sub x hat.m) (insideP k nm b0 v i) _ _ hvl8) _ _ ?_|fail
   ·rename_i h _ _
    refine Qb (hQ' _ (by omega)) ?_
    unfold insideP at h
    by_cases hk8 : k = 8
    ·by_cases hi : i = 0
     ·rw [if_neg (by simp [hi])] at h; simp [hk8, hi, tmsLet, h]
     ·rw [if_pos ⟨hk8, hi⟩] at h; rw [if_pos hk8, if_neg hi, tmsLate, h]; rfl
    ·rw [if_neg (by simp [hk8])] at h; simp [hk8, tmsLate, h]
   ·rename_i h
    refine ih2 _ (by omega) (fun hc => by omega) fun N'' h2 => Qb (hQ' N'' (by omega)) ?_
    unfold insideP at h
    by_cases hk8 : k = 8
    ·by_cases hi : i = 0
     ·rw [if_neg (by simp [hi])] at h
      have hlx := h0 hi
      have hbe : b0 = false := by rw [hb0, ← hlx]; simpa using h
      simp [hk8, hi, tmsLet, h, hbe, plB]
     ·rw [if_pos ⟨hk8, hi⟩] at h
      rw [if_pos hk8, if_neg hi, if_pos hk8, if_neg (by omega), tmsLate, h]; rfl
    ·rw [if_neg (by simp [hk8])] at h; simp [hk8, tmsLate, h]
end Go.Proofs.YtfkmegifjiiclaaGreat

/- IsDynamic: the program, and the law. -/
set_option linter.unusedVariables false
set_option linter.unusedSimpArgs false
namespace Go.Proofs.YtfkmegifjiiclaaGreat
open Go Go.Proofs Go.Proofs.Tryz Go.IntWalk

def plOf (g : List Pm) : List Pl := g.map fun p => (p.nm, 0, p.dy)
theorem plOf_len (g : List Pm) : (plOf g).length = g.length := by simp [plOf]
theorem plOf_env (g : List Pm) : (plOf g).map plB = envOf g := by simp [plOf, envOf, plB]
theorem c_times0 {g : List Pm} {es : List D} (h : Pms g es) (hg : g.length ≤ 1073741824) (a : Option Addr) (c : Nat) : RetP 46 [.sv a 4 es c, .sv none 0 [] 0] (plOf g) := fun N Q hQ => by
 have hl := h.all.len
 refine w_impl_times N a es c none [] 0 Q fun _ _ => ?_
 have e0 : decide ((([] : List D).length : Int) > 0) = false := by simp
 have key := up h.all h.len (fun i xs => (i = 0 → ∀ (N' : Nat), N ≤ N' → L_impl_times_3 Q N none [] 0 0 0 a es c es.length i [] 0 N') ∧
  (0 < i → ∀ (a5 : Option Addr) (c5 : Nat) (N' : Nat), N ≤ N' → L_impl_times_3_v1 Q N none [] 0 a5 (((plOf g).take i).map plD) c5 a es c es.length i N')) (fun i hlt hi => ⟨fun h0 N' hN' => ?_, fun h0 a5 c5 N' hN' => ?_⟩) (fun i x xs hat _ ih2 => ⟨fun h0 N' hN' => ?_, fun h0 a5 c5 N' hN' => ?_⟩)
 ·exact key.1 rfl N (Nat.le_refl _)
 ·refine l_impl_times_3 _ _ _ _ _ _ _ _ _ _ _ _ _ _ _ ?_
  have hg0 : g = [] := List.eq_nil_of_length_eq_zero (by omega)
  subst hg0
  repeat' first|with_reducible intro _|simp only[hlt,Y1,Y2,Y3,Y4]|(with_reducible first|refine X1 ?_ ?_|refine X2 ?_ ?_|refine X3 ?_ ?_|refine X4 ?_ ?_|refine X5 ?_ ?_|refine X6 ?_ ?_|refine X7 ?_ ?_|refine X8 ?_ ?_|refine X9 ?_ ?_)|refine⟨_,_,_,rfl,?_⟩|refine⟨_,rfl,?_⟩|((with_reducible refine And.intro ?_ ?_);·first|omega|trivial|(show _=_;rfl)|((with_reducible refine And.intro ?_ ?_)<;>first|omega|trivial|(show _=_;rfl)))|fail
  exact hQ _ _ _ (by omega)
 ·refine l_impl_times_3_v1 _ _ _ _ _ _ _ _ _ _ _ _ _ _ ?_
  rw [List.take_of_length_le (by rw [plOf_len]; omega)]
  repeat' first|with_reducible intro _|simp only[hlt,Y1,Y2,Y3,Y4]|(with_reducible first|refine X1 ?_ ?_|refine X2 ?_ ?_|refine X3 ?_ ?_|refine X4 ?_ ?_|refine X5 ?_ ?_|refine X6 ?_ ?_|refine X7 ?_ ?_|refine X8 ?_ ?_|refine X9 ?_ ?_)|refine⟨_,_,_,rfl,?_⟩|refine⟨_,rfl,?_⟩|((with_reducible refine And.intro ?_ ?_);·first|omega|trivial|(show _=_;rfl)|((with_reducible refine And.intro ?_ ?_)<;>first|omega|trivial|(show _=_;rfl)))|fail
  exact hQ _ _ _ (by omega)
 ·have hb := hat.b
  have hm := hat.m
  obtain ⟨t0, t1, hd', hnm, hty⟩ := hat.r
  subst h0
  have hat2 : (plOf g)[0]? = some (x.nm, 0, x.dy) := by rw [plOf, List.getElem?_map, hat.g]; rfl
  have e1 : ((plOf g).take (0 + 1)) = [] ++ [(x.nm, 0, x.dy)] := take_at hat2
  have hand := c_and [] (by simp) (x.nm, 0, x.dy)
  rw [← e1] at hand
  refine l_impl_times_3 _ _ _ _ _ _ _ _ _ _ _ _ _ _ _ ?_
  repeat' first|with_reducible intro _|simp only[hat.lt, hat.w, Int.toNat_natCast, hd', e0,Y1,Y2,Y3,Y4]|(with_reducible first|refine X1 ?_ ?_|refine X2 ?_ ?_|refine X3 ?_ ?_|refine X4 ?_ ?_|refine X5 ?_ ?_|refine X6 ?_ ?_|refine X7 ?_ ?_|refine X8 ?_ ?_|refine X9 ?_ ?_)|refine⟨_,_,_,rfl,?_⟩|refine⟨_,rfl,?_⟩|((with_reducible refine And.intro ?_ ?_);·first|omega|trivial|(show _=_;rfl)|((with_reducible refine And.intro ?_ ?_)<;>first|omega|trivial|(show _=_;rfl)))|fail
  all_goals
   rename_i ad hap N1 hN1 hbel
   exact hand ad 0 N1 _ fun a2 c2 N2 hN2 own _ => ⟨off_ownA hbel own (Nat.le_refl _), fun _ => ih2.2 (by omega) _ _ _ (by omega)⟩
 ·have hb := hat.b
  have hm := hat.m
  obtain ⟨t0, t1, hd', hnm, hty⟩ := hat.r
  have hat2 : (plOf g)[i]? = some (x.nm, 0, x.dy) := by rw [plOf, List.getElem?_map, hat.g]; rfl
  have htl : ((plOf g).take i).length ≤ 1073741824 := by rw [List.length_take, plOf_len]; omega
  refine l_impl_times_3_v1 _ _ _ _ _ _ _ _ _ _ _ _ _ _ ?_
  have hand := c_and ((plOf g).take i) htl (x.nm, 0, x.dy)
  rw [← take_at hat2] at hand
  repeat' first|with_reducible intro _|simp only[hat.lt, hat.w, Int.toNat_natCast, hd', e0,Y1,Y2,Y3,Y4]|(with_reducible first|refine X1 ?_ ?_|refine X2 ?_ ?_|refine X3 ?_ ?_|refine X4 ?_ ?_|refine X5 ?_ ?_|refine X6 ?_ ?_|refine X7 ?_ ?_|refine X8 ?_ ?_|refine X9 ?_ ?_)|refine⟨_,_,_,rfl,?_⟩|refine⟨_,rfl,?_⟩|((with_reducible refine And.intro ?_ ?_);·first|omega|trivial|(show _=_;rfl)|((with_reducible refine And.intro ?_ ?_)<;>first|omega|trivial|(show _=_;rfl)))|refine (hand _ _) _ _ ?_|fail
  all_goals exact ih2.2 (by omega) _ _ _ (by omega)
end Go.Proofs.YtfkmegifjiiclaaGreat
