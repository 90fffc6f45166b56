/- Which parts of a body come late, one by one: lists of truth values; the reference and the program. -/
import Derived.Test.YthfoibejlpfhpaaGreatWp
import Derived.Test.YthfoibejlpfhpaaGreatWm
import Derived.Test.YthfoibejlpfhpaaGreatWl
import Derived.Test.YthfoibejlpfhpaaGreatWa
import Derived.Test.YthfoibejlpfhpaaGreatWn
set_option linter.unusedVariables false
set_option linter.unusedSimpArgs false
namespace Go.Proofs.YthfoibejlpfhpaaGreat
open Go Go.Proofs Go.Proofs.Tryz Go.IntWalk

def boolsD (l : List Bool) : List D := l.map fun b => .lit (.bool b)
theorem boolsD_len (l : List Bool) : (boolsD l).length = l.length := by simp [boolsD]
theorem boolsD_app (l m : List Bool) : boolsD l ++ boolsD m = boolsD (l ++ m) := by simp [boolsD]
theorem boolsD_get {l : List Bool} {i : Nat} {b : Bool} (h : l[i]? = some b) : (boolsD l).getD i default = .lit (.bool b) := by simp [boolsD, List.getD_eq_getElem?_getD, List.getElem?_map, h]
theorem boolsD_foot : ∀ l : List Bool, footL (boolsD l) = []
  | [] => rfl
  | s :: l => by simp only [boolsD, List.map_cons, footL, D.foot, List.nil_append]; exact boolsD_foot l
theorem boolsD_flat : ∀ l : List Bool, flat0L (boolsD l)
  | [] => trivial
  | s :: l => ⟨trivial, boolsD_flat l⟩
theorem own_bools {N N' : Nat} (l : List Bool) : OwnL N N' (boolsD l) := ⟨by rw [boolsD_foot]; simp, boolsD_flat l, by rw [boolsD_foot]; simp, by rw [boolsD_foot]; simp⟩
theorem bools_all : ∀ l : List Bool, All2 (fun b d => d = .lit (.bool b)) l (boolsD l)
  | [] => rfl
  | s :: l => ⟨_, _, rfl, rfl, bools_all l⟩
mutual
def Tm.times : Tm → List Bd → List Bool
  | .mk k nm ot n ty re l, v => (Tm.mk k nm ot n ty re l).late v :: (if k = 8 then tmsTL l nm v else tmsT l v)
def tmsT : List Tm → List Bd → List Bool
  | [], _ => []
  | t :: ts, v => t.times v ++ tmsT ts v
def tmsTL : List Tm → ByteArray → List Bd → List Bool
  | [], _, _ => []
  | t :: ts, nm, v => t.times v ++ tmsT ts (v ++ [(nm, t.late v)])
end
mutual
theorem Tm.times_len : ∀ (t : Tm) (v : List Bd), (t.times v).length = t.sz
  | .mk k nm ot n ty re l, v => by
    simp only [Tm.times, Tm.sz, List.length_cons]
    have h1 := tmsT_len l v; have h2 := tmsTL_len l nm v
    split <;> omega
theorem tmsT_len : ∀ (l : List Tm) (v : List Bd), (tmsT l v).length = tmsSz l
  | [], _ => rfl
  | t :: ts, v => by simp only [tmsT, tmsSz, List.length_append]; rw [t.times_len v, tmsT_len ts v]
theorem tmsTL_len : ∀ (l : List Tm) (nm : ByteArray) (v : List Bd), (tmsTL l nm v).length = tmsSz l
  | [], _, _ => rfl
  | t :: ts, nm, v => by simp only [tmsTL, tmsSz, List.length_append]; rw [t.times_len v, tmsT_len ts]
end
/-- returns these truth values in memory of its own -/
def RetBs (f : FuncId) (args : List PV) (l : List Bool) : Prop := ∀ (N : Nat) (Q : QT [.sl 0]), (∀ a c N', N ≤ N' → Own N N' (.sl a 0 (boolsD l) c) → Q a (boolsD l) c N') → ACalls prog f [.sl 0] args N Q
/-- what is still to come ahead of part i -/
def timesR (k : Int) (nm : ByteArray) (b0 : Bool) (v : List Bd) (i : Nat) (xs : List Tm) : List Bool := if k = 8 then (if i = 0 then tmsTL xs nm v else tmsT xs (v ++ [(nm, b0)])) else tmsT xs v
theorem timesR_nil {k : Int} {nm : ByteArray} {b0 : Bool} {v : List Bd} {i : Nat} : timesR k nm b0 v i [] = [] := by
  unfold timesR; split
  · split <;> rfl
  · rfl
theorem timesR_cons {k : Int} {nm : ByteArray} {b0 : Bool} {v : List Bd} {i : Nat} {x : Tm} {xs : List Tm} (h0 : i = 0 → b0 = x.late v) :
    timesR k nm b0 v i (x :: xs) = x.times (if k = 8 ∧ i ≠ 0 then v ++ [(nm, b0)] else v) ++ timesR k nm b0 v (i + 1) xs := by
  unfold timesR
  by_cases hk : k = 8
  · by_cases hi : i = 0
    · rw [if_pos hk, if_pos hi, if_neg (by simp [hi]), if_pos hk, if_neg (by omega), tmsTL, h0 hi]
    · rw [if_pos hk, if_neg hi, if_pos ⟨hk, hi⟩, if_pos hk, if_neg (by omega), tmsT]
  · rw [if_neg hk, if_neg (by simp [hk]), if_neg hk, tmsT]
theorem timesR_top {k : Int} {nm ot : ByteArray} {n : Int} {ty re : Ty} {l : List Tm} {b0 : Bool} {v : List Bd} : (Tm.mk k nm ot n ty re l).times v = [(Tm.mk k nm ot n ty re l).late v] ++ timesR k nm b0 v 0 l := by
  simp only [Tm.times, timesR, if_true]; rfl
theorem c_l16Times : ∀ (t : Tm) (d : D), t.Is d → t.ok = true → ∀ (v : List Bd) (a : Option Addr) (c : Nat), v.length + t.cnt ≤ 1073741824 → RetBs 54 [.dg 9 d, .sv a 2 (v.map bdD) c] (t.times v) := by
  refine Tm.ind fun k nm ot n0 ty re l ih d hd hok v a c hc N Q hQ => ?_
  have hlate := c_l16Late _ d hd hok v a c hc
  have hsz := (Tm.mk k nm ot n0 ty re l).times_len v
  have hszc := (Tm.mk k nm ot n0 ty re l).sz_cnt
  obtain ⟨t0, t1, r0, r1, a1, es, c1, rfl, hh, hlen, hes⟩ := Tm.is_mk.1 hd
  have node := node_of hok
  simp only [Tm.cnt] at hc hszc
  have hlp : k = 8 → ∃ x0 x1, l = [x0, x1] ∧ x0.Is (es.getD 0 default) ∧ es.length = 2 := fun h8 => by
    have har := node.ar
    subst h8
    rw [show arOf 8 nm = 2 from rfl] at har
    obtain ⟨x0, x1, d0, d1, h, he, h0, _⟩ := two_parts hes har
    exact ⟨x0, x1, h, by rw [he]; exact h0, by rw [he]; rfl⟩
  obtain ⟨b0, hb0⟩ : ∃ b0, b0 = ((l.head?.map fun x0 => x0.late v).getD false) := ⟨_, rfl⟩
  have htop := timesR_top (k := k) (nm := nm) (ot := ot) (n := n0) (ty := ty) (re := re) (l := l) (b0 := b0) (v := v)
  refine w_spec_l16Times N _ a _ c Q fun _ _ N1 hN1 => hlate N1 _ fun N2 hN2 _ => ?_
  have key := up hes hlen (fun i xs => ∀ (done : List Bool) (q N' : Nat), N ≤ N' → (i = 0 → xs = l) → (∀ y ∈ xs, y ∈ l) → done ++ timesR k nm b0 v i xs = (Tm.mk k nm ot n0 ty re l).times v →
    L_spec_l16Times_3 Q N a (v.map bdD) c (boolsD done).length q i (.ag [.lit (.int .i64 k), .lit (.string nm), .lit (.string ot), .lit (.int .i64 n0), t0, t1, r0, r1, .sl a1 9 es c1]) (boolsD done) q N') ?_ ?_
  · exact key [_] 1 N2 (by omega) (fun _ => rfl) (fun y h => h) htop.symm
  · intro i hlt _ done q N' hN' _ _ hdn
    rw [timesR_nil, List.append_nil] at hdn
    subst hdn
    refine l_spec_l16Times_3 _ _ _ _ _ _ _ _ _ _ _ _ ?_
    repeat' first|with_reducible intro _|simp only[hlt,Y1,Y2,Y3,Y4]|(with_reducible first|refine X1 ?_ ?_|refine X2 ?_ ?_|refine X3 ?_ ?_|refine X4 ?_ ?_|refine X5 ?_ ?_|refine X6 ?_ ?_|refine X7 ?_ ?_|refine X8 ?_ ?_|refine X9 ?_ ?_)|refine⟨_,_,_,rfl,?_⟩|refine⟨_,rfl,?_⟩|((with_reducible refine And.intro ?_ ?_);·first|omega|trivial|(show _=_;rfl)|((with_reducible refine And.intro ?_ ?_)<;>first|omega|trivial|(show _=_;rfl)))|fail
    rename_i a9 N11 hN11 hf N12 hN12
    exact hQ _ _ _ (by omega) ((own_sl (N1 := N11) (own_bools _) hf (Nat.le_refl _)).mono (Nat.le_refl _) hN12)
  · intro i x xs hat _ ih2 done q N' hN' h0 hsub hdn
    have hb := hat.b
    have hxc := tms_mem_cnt hat.m
    rw [timesR_cons (fun hi => by rw [hb0, ← h0 hi]; rfl), ← List.append_assoc] at hdn
    have hlen2 := congrArg List.length hdn
    simp only [List.length_append] at hlen2
    have hap : ∀ w : List Bool, w.length ≤ x.sz → apBound (boolsD done) (boolsD w) 1 := fun w hw => by
      have := x.sz_cnt
      unfold apBound; rw [List.length_append, boolsD_len, boolsD_len]; omega
    refine l_spec_l16Times_3 _ _ _ _ _ _ _ _ _ _ _ _ ?_
    by_cases h8 : k = 8 ∧ i ≠ 0
    · obtain ⟨h8, hi0⟩ := h8
      obtain ⟨x0, x1, hl2, hx0, hes2⟩ := hlp h8
      have hx0l : x0 ∈ l := by rw [hl2]; simp
      have hi1 : i = 1 := by omega
      have hv1 : v.length + 1 + x.cnt ≤ 1073741824 := by omega
      have hc0 := tms_mem_cnt hx0l
      have hbe : b0 = x0.late v := by rw [hb0, hl2]; rfl
      rw [if_pos ⟨h8, hi0⟩] at hdn
      subst hi1
      subst h8
      have hxl := (x.times_len (v ++ [(nm, b0)]))
      have e1 : ((((1 : Nat) : Int)) == 1) = true := rfl
      have hwith := c_l16With v (by omega) a c nm (x0.late v)
      rw [← hbe] at hwith
      have hl0 := c_l16Late x0 _ hx0 (node.sub _ hx0l) v a c (by omega)
      rw [← hbe] at hl0
      repeat' first|with_reducible intro _|simp only[hat.lt, hat.w, Int.toNat_natCast, beq_self_eq_true, e1,Y1,Y2,Y3,Y4]|(with_reducible first|refine X1 ?_ ?_|refine X2 ?_ ?_|refine X3 ?_ ?_|refine X4 ?_ ?_|refine X5 ?_ ?_|refine X6 ?_ ?_|refine X7 ?_ ?_|refine X8 ?_ ?_|refine X9 ?_ ?_)|refine⟨_,_,_,rfl,?_⟩|refine⟨_,rfl,?_⟩|((with_reducible refine And.intro ?_ ?_);·first|omega|trivial|(show _=_;rfl)|((with_reducible refine And.intro ?_ ?_)<;>first|omega|trivial|(show _=_;rfl)))|refine hl0 _ _ ?_|refine hwith _ _ ?_|refine (ih x hat.m _ hat.r (node.sub x hat.m) (v ++ [(nm, b0)]) _ _ (by simp; omega)) _ _ ?_|fail
      refine ⟨hap _ (by omega), fun c5 => ?_⟩
      rw [boolsD_app]
      exact ih2 _ _ _ (by omega) (fun h => by omega) (fun y hy => hsub y (List.mem_cons_of_mem _ hy)) hdn
    · rw [if_neg h8] at hdn
      have hxl := (x.times_len v)
      repeat' first|with_reducible intro _|simp only[hat.lt, hat.w, Int.toNat_natCast,Y1,Y2,Y3,Y4]|(with_reducible first|refine X1 ?_ ?_|refine X2 ?_ ?_|refine X3 ?_ ?_|refine X4 ?_ ?_|refine X5 ?_ ?_|refine X6 ?_ ?_|refine X7 ?_ ?_|refine X8 ?_ ?_|refine X9 ?_ ?_)|refine⟨_,_,_,rfl,?_⟩|refine⟨_,rfl,?_⟩|((with_reducible refine And.intro ?_ ?_);·first|omega|trivial|(show _=_;rfl)|((with_reducible refine And.intro ?_ ?_)<;>first|omega|trivial|(show _=_;rfl)))|refine (ih x hat.m _ hat.r (node.sub x hat.m) v a c (by omega)) _ _ ?_|fail
      all_goals first
        | exact absurd ⟨by assumption, by omega⟩ h8
        | (refine ⟨hap _ (by omega), fun c5 => ?_⟩
           rw [boolsD_app]
           exact ih2 _ _ _ (by omega) (fun h => by omega) (fun y hy => hsub y (List.mem_cons_of_mem _ hy)) hdn)
theorem c_all : ∀ (t : Tm) (d : D), t.Is d → t.ok = true → ∀ (v : List Pl) (a : Option Addr) (c : Nat), v.length + t.cnt ≤ 1073741824 → RetBs 58 [.sv a 3 (v.map plD) c, .dg 9 d] (t.times (v.map plB)) := by
  refine Tm.ind fun k nm ot n0 ty re l ih d hd hok v a c hc N Q hQ => ?_
  have hlate := c_isDynamic _ d hd hok v a c hc
  have hsz := (Tm.mk k nm ot n0 ty re l).times_len (v.map plB)
  have hszc := (Tm.mk k nm ot n0 ty re l).sz_cnt
  obtain ⟨t0, t1, r0, r1, a1, es, c1, rfl, hh, hlen, hes⟩ := Tm.is_mk.1 hd
  have node := node_of hok
  simp only [Tm.cnt] at hc hszc
  have hlp : k = 8 → ∃ x0 x1, l = [x0, x1] ∧ x0.Is (es.getD 0 default) ∧ es.length = 2 := fun h8 => by
    have har := node.ar
    subst h8
    rw [show arOf 8 nm = 2 from rfl] at har
    obtain ⟨x0, x1, d0, d1, h, he, h0, _⟩ := two_parts hes har
    exact ⟨x0, x1, h, by rw [he]; exact h0, by rw [he]; rfl⟩
  obtain ⟨b0, hb0⟩ : ∃ b0, b0 = ((l.head?.map fun x0 => x0.late (v.map plB)).getD false) := ⟨_, rfl⟩
  have htop := timesR_top (k := k) (nm := nm) (ot := ot) (n := n0) (ty := ty) (re := re) (l := l) (b0 := b0) (v := v.map plB)
  refine w_impl_places_all N a _ c _ Q fun _ _ N1 hN1 => hlate N1 _ fun N2 hN2 _ => ⟨_, _, _, rfl, ?_⟩
  have key := up hes hlen (fun i xs => ∀ (done : List Bool) (q N' : Nat), N ≤ N' → (i = 0 → xs = l) → done ++ timesR k nm b0 (v.map plB) i xs = (Tm.mk k nm ot n0 ty re l).times (v.map plB) →
    L_impl_places_all_3 Q N a (v.map plD) c (boolsD done).length q a1 es c1 es.length i (.ag [.lit (.int .i64 k), .lit (.string nm), .lit (.string ot), .lit (.int .i64 n0), t0, t1, r0, r1, .sl a1 9 es c1]) (boolsD done) q N') ?_ ?_
  · exact key [_] 1 N2 (by omega) (fun _ => rfl) htop.symm
  · intro i hlt _ done q N' hN' _ hdn
    rw [timesR_nil, List.append_nil] at hdn
    subst hdn
    refine l_impl_places_all_3 _ _ _ _ _ _ _ _ _ _ _ _ _ _ _ _ ?_
    repeat' first|with_reducible intro _|simp only[hlt,Y1,Y2,Y3,Y4]|(with_reducible first|refine X1 ?_ ?_|refine X2 ?_ ?_|refine X3 ?_ ?_|refine X4 ?_ ?_|refine X5 ?_ ?_|refine X6 ?_ ?_|refine X7 ?_ ?_|refine X8 ?_ ?_|refine X9 ?_ ?_)|refine⟨_,_,_,rfl,?_⟩|refine⟨_,rfl,?_⟩|((with_reducible refine And.intro ?_ ?_);·first|omega|trivial|(show _=_;rfl)|((with_reducible refine And.intro ?_ ?_)<;>first|omega|trivial|(show _=_;rfl)))|fail
    rename_i a9 N11 hN11 hf N12 hN12
    exact hQ _ _ _ (by omega) ((own_sl (N1 := N11) (own_bools _) hf (Nat.le_refl _)).mono (Nat.le_refl _) hN12)
  · intro i x xs hat _ ih2 done q N' hN' h0 hdn
    have hb := hat.b
    have hxc := tms_mem_cnt hat.m
    rw [timesR_cons (fun hi => by rw [hb0, ← h0 hi]; rfl), ← List.append_assoc] at hdn
    have hlen2 := congrArg List.length hdn
    simp only [List.length_append] at hlen2
    have hap : ∀ w : List Bool, w.length ≤ x.sz → apBound (boolsD done) (boolsD w) 1 := fun w hw => by
      have := x.sz_cnt
      unfold apBound; rw [List.length_append, boolsD_len, boolsD_len]; omega
    have hins := c_inside (k := k) (nm := nm) (ot := ot) (n0 := n0) (t0 := t0) (t1 := t1) (r0 := r0) (r1 := r1) (a1 := a1) (es := es) (c1 := c1) v (by omega) a c i b0 (fun h8 hc => by
        obtain ⟨x0, x1, _, _, hl⟩ := hlp h8; rw [hc] at hl; simp at hl) (fun h8 => by
        obtain ⟨x0, x1, hl, hx0, _⟩ := hlp h8
        have hx0l : x0 ∈ l := by rw [hl]; simp
        have hcx := tms_mem_cnt hx0l
        have hbe : b0 = x0.late (v.map plB) := by rw [hb0, hl]; rfl
        rw [hbe]
        exact c_isDynamic x0 _ hx0 (node.sub _ hx0l) v a c (by omega))
    have hi8 : (insideP k nm b0 v i).map plB = if k = 8 ∧ i ≠ 0 then v.map plB ++ [(nm, b0)] else v.map plB := by
      unfold insideP; split <;> simp [plB]
    rw [← hi8] at hdn
    have hxl := x.times_len ((insideP k nm b0 v i).map plB)
    have hvl8 : (insideP k nm b0 v i).length + x.cnt ≤ 1073741824 := by
      unfold insideP
      split <;> first | (simp; omega) | omega
    refine l_impl_places_all_3 _ _ _ _ _ _ _ _ _ _ _ _ _ _ _ _ ?_
    repeat' first|with_reducible intro _|simp only[hat.lt, hat.w, Int.toNat_natCast,Y1,Y2,Y3,Y4]|(with_reducible first|refine X1 ?_ ?_|refine X2 ?_ ?_|refine X3 ?_ ?_|refine X4 ?_ ?_|refine X5 ?_ ?_|refine X6 ?_ ?_|refine X7 ?_ ?_|refine X8 ?_ ?_|refine X9 ?_ ?_)|refine⟨_,_,_,rfl,?_⟩|refine⟨_,rfl,?_⟩|((with_reducible refine And.intro ?_ ?_);·first|omega|trivial|(show _=_;rfl)|((with_reducible refine And.intro ?_ ?_)<;>first|omega|trivial|(show _=_;rfl)))|refine hins _ _ ?_|refine (ih x hat.m _ hat.r (node.sub x hat.m) (insideP k nm b0 v i) _ _ hvl8) _ _ ?_|fail
    refine ⟨hap _ (by omega), fun c5 => ?_⟩
    rw [boolsD_app]
    exact ih2 _ _ _ (by omega) (fun h => by omega) hdn
def timesOf (g : List Pm) (e : Tm) : List Bool := if (bodyTy g e).isSome then e.times (envOf g) else []
theorem timesOf_len (g : List Pm) (e : Tm) : (timesOf g e).length ≤ e.cnt := by
  unfold timesOf
  split
  · rw [e.times_len]; exact e.sz_cnt
  · simp
theorem own_bools_nil {N N' : Nat} : Own N N' (.sl none 0 (boolsD []) 0) := ⟨by simp [D.foot, boolsD, footL], ⟨by simp, trivial⟩, by simp [D.foot, boolsD, footL], by simp [D.foot, boolsD, footL]⟩
theorem c_spec_TimesOf {g : List Pm} {es : List D} (h : Pms g es) (hg : g.length ≤ 536870000) {e : Tm} {d : D} (he : e.Is d) (hc : e.cnt ≤ 536870000) (a : Option Addr) (c : Nat) : RetBs 19 [.sv a 4 es c, .dg 9 d] (timesOf g e) := fun N Q hQ => by
  refine w_spec_TimesOf N a es c d Q fun _ _ N1 hN1 => ?_
  refine c_spec_BodyType h (by omega) he hc a c N1 _ fun x N2 hN2 _ _ _ => Br.not (fun hb => ?_) fun hb N5 hN5 => ?_
  · rw [timesOf, if_neg (by simp [hb])] at hQ
    exact ⟨⟨rfl, rfl⟩, ⟨rfl, rfl⟩, fun a3 N3 hN3 hf N4 hN4 => hQ _ _ _ (by omega) ((own_sl (N1 := N3) (own_bools []) hf (Nat.le_refl _)).mono (Nat.le_refl _) hN4)⟩
  · rw [timesOf, if_pos hb] at hQ
    refine c_l16Env h (by omega) a c N5 _ fun a2 c2 N6 hN6 _ _ N7 hN7 => ?_
    obtain ⟨_, hv, _⟩ := bodyTy_some hb
    refine c_l16Times e d he (vd_ok hv) (envOf g) a2 c2 (by rw [envOf_len]; omega) N7 _ fun a4 c4 N8 hN8 own _ _ N9 hN9 => ?_
    exact hQ _ _ _ (by omega) (own.mono (by omega) hN9)
theorem c_impl_TimesOf {g : List Pm} {es : List D} (h : Pms g es) (hg : g.length ≤ 536870000) (hc2 : ∀ x ∈ g, x.ty.cnt ≤ 1073741824) {e : Tm} {d : D} (he : e.Is d) (hc : e.cnt ≤ 1048576000 / 2) (a : Option Addr) (c : Nat) :
    RetBs 20 [.sv a 4 es c, .dg 9 d] (timesOf g e) := fun N Q hQ => by
  refine w_impl_TimesOf N a es c d Q fun _ _ N1 hN1 => ?_
  refine c_impl_BodyType h (by omega) hc2 he hc a c N1 _ fun x N2 hN2 _ _ _ _ => Br.not (fun hb N3 hN3 => ?_) fun hb N4 hN4 => ?_
  · rw [timesOf, if_neg (by simp [hb])] at hQ
    exact hQ _ _ _ (by omega) own_bools_nil
  · rw [timesOf, if_pos hb] at hQ
    refine c_times0 h (by omega) a c N4 _ fun a2 c2 N5 hN5 _ _ N6 hN6 => ?_
    obtain ⟨_, hv, _⟩ := bodyTy_some hb
    refine c_all e d he (vd_ok hv) (plOf g) a2 c2 (by rw [plOf_len]; omega) N6 _ fun a4 c4 N7 hN7 own _ _ N8 hN8 => ?_
    rw [plOf_env] at own ⊢
    exact hQ _ _ _ (by omega) (own.mono (by omega) hN8)
end Go.Proofs.YthfoibejlpfhpaaGreat

/- CountDynamic and TimesOf: the laws. -/
set_option linter.unusedVariables false
set_option linter.unusedSimpArgs false
namespace Go.Proofs.YthfoibejlpfhpaaGreat
open Go Go.Proofs Go.Proofs.Tryz Go.IntWalk

end Go.Proofs.YthfoibejlpfhpaaGreat

/- TimesOf: lists of truth values compared, marked, held; the law. -/
set_option linter.unusedVariables false
set_option linter.unusedSimpArgs false
namespace Go.Proofs.YthfoibejlpfhpaaGreat
open Go Go.Proofs Go.Proofs.Tryz Go.IntWalk

theorem c_eqBoolS (l : List Bool) (hl : l.length ≤ 4611686018427387904) (a b : Option Addr) (c c' : Nat) : RetB 21 [.sv a 0 (boolsD l) c, .sv b 0 (boolsD l) c'] true := fun N Q hQ => by
  have key := up (bools_all l) (by rw [boolsD_len]; exact hl) (fun i xs => ∀ (N' : Nat), N ≤ N' → L_laws_eqBoolS_4 Q N a (boolsD l) c b (boolsD l) c' i N') ?_ ?_
  · refine w_laws_eqBoolS N _ _ _ _ _ _ Q fun _ _ => Br.bne (fun h => absurd rfl h) fun _ => ?_
    exact key N (Nat.le_refl _)
  · intro i hlt hi N' hN'
    refine l_laws_eqBoolS_4 _ _ _ _ _ _ _ _ _ _ ?_
    repeat' first|with_reducible intro _|simp only[hlt,Y1,Y2,Y3,Y4]|(with_reducible first|refine X1 ?_ ?_|refine X2 ?_ ?_|refine X3 ?_ ?_|refine X4 ?_ ?_|refine X5 ?_ ?_|refine X6 ?_ ?_|refine X7 ?_ ?_|refine X8 ?_ ?_|refine X9 ?_ ?_)|refine⟨_,_,_,rfl,?_⟩|refine⟨_,rfl,?_⟩|((with_reducible refine And.intro ?_ ?_);·first|omega|trivial|(show _=_;rfl)|((with_reducible refine And.intro ?_ ?_)<;>first|omega|trivial|(show _=_;rfl)))|fail
    exact hQ _ (by omega)
  · intro i x xs hat _ ih2 N' hN'
    have hb := hat.b
    refine l_laws_eqBoolS_4 _ _ _ _ _ _ _ _ _ _ ?_
    simp only [hat.lt, hat.w, Int.toNat_natCast, Br_true]
    refine ⟨⟨by omega, by omega⟩, x, hat.r, ⟨by omega, by omega⟩, x, hat.r, ?_⟩
    simp only [beq_self_eq_true, Bool.not_true, Br_false]
    exact ih2 _ hN'

/-! marks -/
def mkB : Nat → Int → List Bool
  | 0, _ => []
  | n + 1, k => (Int.tmod k 3 == 0) :: mkB n (k + 1)
theorem mkB_len : ∀ (n : Nat) (k : Int), (mkB n k).length = n
  | 0, _ => rfl
  | n + 1, k => by simp [mkB, mkB_len n]
theorem c_mkBGo : ∀ (l : List Bool) (done : List Bool), (done ++ l).length ≤ 4611686018427387904 →
    ∀ (T : List Nat) (b0 N m c t : Nat) (k : Int) (R : Int → D → Nat → Prop), 0 ≤ k → k + l.length ≤ 2305843009213693952 → ∀ (q N1 : Nat), N ≤ N1 → m = (done ++ l).length →
    (∀ N', N1 ≤ N' → R (k + l.length) (.ag (boolsD (done ++ mkB l.length k))) N') → L_laws_markBoolS_2_v1 T b0 R N m c k done.length t (boolsD (done ++ l)) q N1
  | [], done, hlen, T, b0, N, m, c, t, k, R, hk, hK, q, N1, hN1, hm, hR => by
    rw [List.append_nil] at *
    refine l_laws_markBoolS_2_v1 _ _ _ _ _ _ _ _ _ _ _ _ (Br.dec (fun hc => by omega) fun _ => ⟨rfl, fun N3 hN3 => ?_⟩)
    have := hR N3 (by omega)
    simpa [mkB] using this
  | s :: ts, done, hlen, T, b0, N, m, c, t, k, R, hk, hK, q, N1, hN1, hm, hR => by
    have hlt : (done.length : Int) < (m : Int) := by rw [hm]; simp; omega
    have hl2 : done.length < (boolsD (done ++ s :: ts)).length := by simp [boolsD]
    simp only [List.length_cons] at hK
    refine l_laws_markBoolS_2_v1 _ _ _ _ _ _ _ _ _ _ _ _ (Br.dec (fun _ => ?_) fun hc => absurd hlt hc)
    rw [i64_in (k + 1) (by omega), i64_in ((done.length : Int) + 1) (by rw [hm] at hlt; simp at hlt hlen; omega)]
    simp only [Int.toNat_natCast, Nat.zero_add]
    refine ⟨by omega, ⟨by omega, hlt, hl2⟩, hl2, ?_⟩
    have hset : (boolsD (done ++ s :: ts)).set done.length (.lit (.bool (Int.tmod k 3 == 0))) = boolsD ((done ++ [Int.tmod k 3 == 0]) ++ ts) := by simp [boolsD]
    rw [hset]
    have := c_mkBGo ts (done ++ [Int.tmod k 3 == 0]) (by simpa using hlen) T b0 N m c t (k + 1) R (by omega) (by omega) q N1 (by omega) (by rw [hm]; simp) fun N' h => by
      have := hR N' (by omega)
      simp only [List.length_cons, mkB] at this
      rw [show (k + ((ts.length + 1 : Nat) : Int)) = k + 1 + ts.length by omega] at this
      simpa using this
    simpa using this
theorem c_markBoolS (l : List Bool) (hl : l.length ≤ 1152921504606846976) (a : Option Addr) (c : Nat) (ht : Tree (.sl a 0 (boolsD l) c)) (k : Int) (hk : 0 ≤ k) (hk2 : k ≤ 1152921504606846976) (N : Nat) (R : D → Int → Nat → Prop)
    (hR : ∀ N', N ≤ N' → R (.sl a 0 (boolsD (mkB l.length k)) c) (k + l.length) N') : MC prog 24 (.sl a 0 (boolsD l) c) k N R := by
  by_cases hne : l = []
  · subst hne
    refine mc_nil (w_laws_markBoolS N a [] c k _ fun _ => l_laws_markBoolS_2 _ _ _ _ _ _ _ _ (Br.of (fun hc => ?_) fun _ N2 hN2 => ?_))
    · simp at hc
    · simpa [mkB, boolsD] using hR N2 hN2
  · have hw : boolsD l ≠ [] := by simpa [boolsD] using hne
    cases a with
    | none => exact mc_none (by kernel_rfl) hw
    | some ad =>
      refine m_laws_markBoolS N ad (boolsD l) c k R (fun k' x N' => N ≤ N' ∧ x = .ag (boolsD (mkB l.length k)) ∧ k' = k + l.length) ht hw (by rw [boolsD_len]; unfold maxLen; omega) (fun t => ?_) ?_
      · have := c_mkBGo l [] (by simp; omega) (D.sl (some ad) 0 (boolsD l) c).foot ad.block N (boolsD l).length c t k (fun k' x N' => N ≤ N' ∧ x = .ag (boolsD (mkB l.length k)) ∧ k' = k + l.length) hk (by omega) (boolsD l).length N (Nat.le_refl _) (by simp [boolsD]) fun N' h => ⟨h, by simp, rfl⟩
        simpa using this
      · rintro k' x N' ⟨hN', rfl, rfl⟩
        exact ⟨boolsD (mkB l.length k), rfl, by simp [boolsD_len, mkB_len], by simp [boolsD_foot], hR N' hN'⟩
theorem mkB_get : ∀ (n : Nat) (k : Int) (i : Nat), i < n → (mkB n k)[i]? = some (Int.tmod (k + i) 3 == 0)
  | n + 1, k, 0, _ => by simp [mkB]
  | n + 1, k, i + 1, h => by
    simp only [mkB, List.getElem?_cons_succ]
    rw [mkB_get n (k + 1) i (by omega)]
    congr 3; omega
theorem c_heldBoolS (n : Nat) (hn : n ≤ 1152921504606846976) (k : Int) (hk : 0 ≤ k) (hk2 : k ≤ 1152921504606846976) (a : Option Addr) (c : Nat) : RetI 25 [.sv a 0 (boolsD (mkB n k)) c, .int .i64 k] (k + n) := fun N Q hQ => by
  refine w_laws_heldBoolS N a _ c k Q fun _ => ?_
  have key : ∀ (m i : Nat), i + m = n → ∀ N', N ≤ N' → L_laws_heldBoolS_2 Q N a (boolsD (mkB n k)) c (k + i) i N' := by
    intro m
    induction m with
    | zero =>
      intro i hi N' hN'
      refine l_laws_heldBoolS_2 _ _ _ _ _ _ _ _ (Br.dec (fun h => ?_) fun _ N1 hN1 => ?_)
      · rw [boolsD_len, mkB_len] at h; omega
      · have : i = n := by omega
        subst this
        exact hQ _ (by omega)
    | succ m ih =>
      intro i hi N' hN'
      have hg := boolsD_get (mkB_get n k i (by omega))
      have hlt : (i : Int) < ((boolsD (mkB n k)).length : Int) := by rw [boolsD_len, mkB_len]; omega
      refine l_laws_heldBoolS_2 _ _ _ _ _ _ _ _ (Br.dec (fun h => ?_) fun h => absurd hlt h)
      rw [Int.toNat_natCast, hg]
      refine ⟨⟨by omega, hlt⟩, _, rfl, by omega, ?_⟩
      simp only [beq_self_eq_true, Bool.not_true, Br_false]
      rw [i64_in _ (by omega), i64_in _ (by omega)]
      have := ih (i + 1) (by omega) N' (by omega)
      simpa [Int.add_assoc] using this
  simpa using key n 0 (by omega) N (Nat.le_refl _)
theorem pmCnt_le {m : Nat} : ∀ {g : List Pm}, (∀ x ∈ g, x.ty.cnt ≤ m) → pmCnt g ≤ g.length * m
  | [], _ => by simp [pmCnt]
  | x :: g, h => by
    have h1 := pmCnt_le (g := g) fun y hy => h y (by simp [hy])
    have h2 := h x (by simp)
    simp only [pmCnt, List.length_cons, Nat.add_mul, Nat.one_mul]
    omega
theorem law_TimesOf {g : List Pm} {es : List D} {t : Tm} {d : D} (ctx : Pms g es) (he : t.Is d) (a : Option Addr) (c : Nat) (N : Nat) :
    ACalls prog 4 [.bool] [.sv a 4 es c, .dg 9 d] N (fun r _ => r = true) := by
  refine w_laws_FnExactTimesOf N a es c d _ fun hB0 hB1 N1 hN1 => ?_
  refine c_szParamS ctx a c 1048576 (by omega) (by omega) N1 _ fun r N2 hN2 hr _ => Br.dec (fun _ N3 _ => rfl) fun hneg N4 hN4 => ?_
  obtain ⟨hr0, hr1, hgl, hgc⟩ := hr.resolve_left (by omega)
  refine c_szTerm t d he r (by omega) (by omega) N4 _ fun r2 N5 hN5 hr2 _ => Br.dec (fun _ N6 _ => rfl) fun hneg2 N7 hN7 => ?_
  obtain ⟨hq0, hq1, hcn⟩ := hr2.resolve_left (by omega)
  have hcn : t.cnt ≤ 3145731 := by omega
  have hgl : g.length ≤ 1048576 := by omega
  have hgc : ∀ x ∈ g, x.ty.cnt ≤ 1048577 := fun x hx => by have := hgc x hx; omega
  have hgc2 : ∀ x ∈ g, x.ty.cnt ≤ 1073741824 := fun x hx => by have := hgc x hx; omega
  have htg : pmCnt g ≤ 1048576 * 1048577 := Nat.le_trans (pmCnt_le hgc) (Nat.mul_le_mul_right _ hgl)
  have hgl2 : g.length ≤ 1073741824 := by omega
  have hgl3 : g.length ≤ 536870000 := by omega
  have hcn2 : t.cnt ≤ 1073741824 := by omega
  have hcn3 : t.cnt ≤ 1048576000 / 2 := by omega
  have hcn4 : t.cnt ≤ 536870000 := by omega
  clear hr hr2
  refine c_toParamS ctx hgl2 hgc2 a c N7 _ fun a1 es1 c1 N8 hN8 ctx1 own1 _ _ N9 hN9 => ?_
  refine c_toTerm t d he hcn2 N9 _ fun d1 N10 hN10 he1 own2 _ _ N11 hN11 => ?_
  have hnl := timesOf_len g t
  have hSpec := c_spec_TimesOf ctx1 hgl3 he1 hcn4 a1 c1
  have hImpl := fun (es2 : List D) (d2 : D) (ctx2 : Pms g es2) (he2 : t.Is d2) a2 c2 => c_impl_TimesOf ctx2 hgl3 hgc2 he2 hcn3 a2 c2
  generalize timesOf g t = o at hSpec hImpl hnl
  have hol : o.length ≤ 4611686018427387904 := by omega
  refine hSpec N11 _ fun aw cw N12 hN12 ow _ hBw N13 hN13 => ?_
  refine c_toParamS ctx hgl2 hgc2 a c N13 _ fun a2 es2 c2 N14 hN14 ctx2 own3 _ _ N15 hN15 => ?_
  refine c_toTerm t d he hcn2 N15 _ fun d2 N16 hN16 he2 own4 _ _ N17 hN17 => ?_
  refine hImpl es2 d2 ctx2 he2 a2 c2 N17 _ fun ag cg N18 hN18 own5 _ _ N19 hN19 => ?_
  refine c_eqBoolS o hol ag aw cg cw N19 _ fun N20 hN20 _ => Br.of (fun h => by simp at h) fun _ N23 hN23 => ?_
  refine c_toParamS ctx hgl2 hgc2 a c N23 _ fun a3 es3 c3 N24 hN24 ctx3 _ _ _ N25 hN25 => ?_
  refine c_eqParamS ctx2 ctx3 a2 a3 c2 c3 N25 _ fun N26 hN26 _ => Br.of (fun h => by simp at h) fun _ N28 hN28 => ?_
  refine c_toTerm t d he hcn2 N28 _ fun d4 N29 hN29 he4 _ _ _ N30 hN30 => ?_
  refine c_eqTerm t d2 d4 he2 he4 N30 _ fun N31 hN31 _ => Br.of (fun h => by simp at h) fun _ => ?_
  have B0 : ∀ M, N ≤ M → Bel M (.sl a 4 es c) := fun M h => hB0.mono h
  have B1 : ∀ M, N ≤ M → Bel M d := fun M h => hB1.mono h
  have d53 := apart_hi own3 own5 (by omega)
  have d54 := apart_hi own4 own5 (by omega)
  have d34 := apart_hi own3 own4 (by omega)
  refine ⟨own3.tree, own3.low (by omega), ⟨fun x hx => ?_⟩, fun N33 hN33 => ?_⟩
  · simp only [List.mem_cons, List.not_mem_nil, or_false] at hx
    rcases hx with rfl | rfl | rfl | rfl | rfl
    · exact apart_lo own3 (B0 _ (by omega))
    · exact apart_lo own3 (hBw.mono (by omega))
    · exact d53
    · exact apart_lo own3 (B1 _ (by omega))
    · exact d34
  refine c_markParamS ctx2 a2 c2 own3.tree 1 (by omega) (by omega) N33 _ fun es5 k5 N34 hN34 hf5 hl5 hk5 hk5' _ => ?_
  refine ⟨own4.tree, own4.low (by omega), rfl, ⟨fun x hx => ?_⟩, fun N35 hN35 => ?_⟩
  · simp only [List.mem_cons, List.not_mem_nil, or_false] at hx
    rcases hx with rfl | rfl | rfl | rfl
    · exact apart_lo own4 (B0 _ (by omega))
    · exact apart_lo own4 (hBw.mono (by omega))
    · exact d54
    · exact apart_lo own4 (B1 _ (by omega))
  refine c_markTerm he2 own4.tree k5 (by omega) (by omega) N35 _ fun d6 k6 N36 hN36 hf6 hk6 hk6' _ => Br.dec (fun h => by omega) fun _ N38 hN38 => ?_
  refine c_eqBoolS o hol ag aw cg cw N38 _ fun N39 hN39 _ => Br.of (fun h => by simp at h) fun _ => ?_
  refine ⟨own5.tree, own5.low (by omega), ⟨fun x hx => ?_⟩, rfl, fun N42 hN42 => ?_⟩
  · simp only [List.mem_cons, List.not_mem_nil, or_false] at hx
    rcases hx with rfl | rfl | rfl | rfl
    · exact apart_lo own5 (B0 _ (by omega))
    · exact apart_lo own5 (hBw.mono (by omega))
    · exact apart_lo own5 (B1 _ (by omega))
    · rw [hf6]; exact fun b hb hc => d54 b hc hb
  refine c_markBoolS o (by omega) ag cg own5.tree 1 (by omega) (by omega) N42 _ fun N43 hN43 _ N44 hN44 => ?_
  have hheld := c_heldBoolS o.length (by omega) 1 (by omega) (by omega) ag cg
  refine hheld N44 _ fun N45 hN45 _ => Br.dec (fun h => by omega) fun _ => Br.bne (fun h => absurd rfl h) fun _ N48 hN48 => ?_
  refine c_toParamS ctx hgl2 hgc2 a c N48 _ fun a5 es5 c5 N49 hN49 ctx5 _ _ _ N50 hN50 => ?_
  refine c_toTerm t d he hcn2 N50 _ fun d7 N51 hN51 he7 _ _ _ N52 hN52 => ?_
  refine hImpl es5 d7 ctx5 he7 a5 c5 N52 _ fun ah ch N53 hN53 _ _ _ N54 hN54 => ?_
  refine c_eqBoolS o hol ah aw ch cw N54 _ fun N55 hN55 _ => Br.of (fun h => by simp at h) fun _ N58 hN58 => ?_
  exact hheld N58 _ fun N59 hN59 _ => Br.dec (fun h => by omega) fun _ => Br.bne (fun h => absurd rfl h) fun _ N62 hN62 => rfl
end Go.Proofs.YthfoibejlpfhpaaGreat

/- What was read is a list of parameters. -/
set_option linter.unusedVariables false
set_option maxRecDepth 100000
namespace Go.Proofs.YthfoibejlpfhpaaGreat
open Go Go.Proofs Go.Proofs.Tryz

theorem ez65 : ezOf prog 65 = 4 := by kernel_rfl
theorem pms_of_shp {n : Nat} {xs : List D} (h : Shp prog n 22 xs) : ∃ a es c, xs = [.sl a 4 es c] ∧ ∃ g, Pms g es := by
  obtain ⟨m, a, es, c, rfl, rfl, hl, hx⟩ := shpSlice underlying22 h
  rw [ez65]
  refine ⟨a, es, c, rfl, ?_⟩
  obtain ⟨g, hg⟩ := all2_choose (R := Pm.Is) (es := es) fun x hxm => by
    have h := hx x hxm
    · obtain ⟨m, rfl, h⟩ := shpStruct underlying65 h
      obtain ⟨a1, b1, hc, h1, a2, b2, rfl, h2, a3, b3, rfl, h3, rfl⟩ := h
      obtain ⟨nm, rfl, hnm⟩ := shpStr underlying9 h1
      obtain ⟨t0, t1, rfl, ty, hty⟩ := ty_of_shp _ _ h2
      obtain ⟨dy, rfl⟩ := shpBool underlying4 h3
      refine ⟨⟨nm, ty, dy⟩, t0, t1, ?_, hnm, hty⟩
      rw [ag_of (x := x) (n := 4) (by rw [hc]; rfl) (by decide), hc]; rfl
  exact ⟨g, hl, hg⟩
end Go.Proofs.YthfoibejlpfhpaaGreat

/- FnExactTimesOf holds as it is stated: for every input that the statement's row admits, the call returns true and each argument reads afterwards as before. No condition of our own. -/
namespace Go.Proofs.YthfoibejlpfhpaaGreat
open Go Go.Proofs Go.Proofs.Tryz Go.ChangeShapes Go.WideShapes Go.ChangeAt Go.RowKit

set_option maxHeartbeats 1600000 in
set_option maxRecDepth 100000 in
theorem fnExactTimesOf_lifted (os : Os) (started : os.Started) (H : Type) (enc : TypeId × Value → H) :
    ReturnsInHanded {} checked os 4 .any (Rows.fnExactTimesOfSpec.pre6 enc prog Tryz.f4 Rows.fnExactTimesOfRow.domain false) (Rows.fnExactTimesOfSpec.post enc prog Tryz.f4 false true false false) := by
  refine returnsInHanded_of_change_sized (C := checked) ownKnob_none started (by kernel_rfl) func4
    (ChangeSpec.witness6 (enc := enc) (C := checked) false ⟨#[], #[.slice none 0 0, .agg #[.int .i64 0, .string ⟨#[]⟩, .string ⟨#[]⟩, .int .i64 0, .int .i64 0, .slice none 0 0, .int .i64 0, .slice none 0 0, .slice none 0 0]], []⟩ 8 (by kernel_rfl) (by kernel_rfl) (by kernel_rfl) (by kernel_rfl)) ?_
  intro W base args ds gs before hval0 hW _ hsz _
  have hval : ∀ (j : Nat) t v, Tryz.f4.params[j]? = some t → args[j]? = some v → Value.okWide prog W .any base t v := hval0
  have hW' := hW
  obtain ⟨p, q, hA0, hV, rfl, hfz, _⟩ := hW
  have hA : DataW.TrodAll enc prog W 0 (fun _ => true) true Tryz.f4.params.toList args.toList ds p := hA0
  have hsz : (DataW.weightsEach prog (Tryz.f4.params.toList ++ []) (ds ++ gs)).all (· ≤ reachBytes) = true := hsz
  rw [params4] at hA hval hsz
  obtain ⟨v0, v1, d0, d1, p0, p1, rfl, rfl, rfl, h0, h1⟩ := trodAll_two hA
  obtain ⟨rfl, rfl⟩ := trodVars_none hV
  obtain ⟨n0, aC, esC, cC, e0, hH0, k0⟩ := slice_in plain_TT (by decide) underlying22 (hval 0 22 v0 rfl rfl) h0 (weights_at hsz (j := 0) rfl rfl)
  obtain ⟨n1, xs, e1, hH1, hI1, k1⟩ := struct_in plain_TT (by decide) (by rw [ez28]; decide) (hval 1 28 v1 rfl rfl) h1 (weights_at hsz (j := 1) rfl rfl)
  rw [ez65] at e0 hH0 k0
  have c28 : prog.cellsOf 28 = 9 := by kernel_rfl
  rw [c28] at e1 hI1
  obtain ⟨a', es', c', hsl, g, ctx⟩ := pms_of_shp k0
  cases hsl
  obtain ⟨t, ht, _⟩ := tm_of_shp _ _ k1
  have hc := (law_TimesOf ctx ht aC cC W.heap.size).h (fun _ => False) W rfl (fun _ h => h.elim) (fun p hp => by
    simp only [List.mem_cons, List.not_mem_nil, or_false] at hp
    rcases hp with rfl | rfl
    · exact ⟨⟨hH0, fun _ _ => id⟩, rfl⟩
    · exact ⟨⟨⟨hH1, fun _ _ => id⟩, hI1⟩, rfl⟩)
  have hargs : ([PV.sv aC 4 esC cC, .dg 9 (.ag xs)].map (PV.val [])).toArray = #[v0, v1] := by
    simp only [List.map_cons, List.map_nil, e0, e1]
  rw [hargs] at hc
  refine hc.mono fun e W' hf => ?_
  exact post_true kids full (by rw [params4]; decide) rfl (by kernel_rfl) underlying4 rfl hW' (ret1_of hf)

theorem fnExactTimesOf_holds : Rows.FnExactTimesOfSaid :=
  OpenClaim.holds_of_wide 4 Tryz.f4 rfl rfl rfl rfl rfl rfl rfl ⟨rfl, rfl, rfl, rfl, rfl⟩ rfl rfl rfl rfl rfl (by kernel_rfl) func4 (by kernel_rfl)
    (of_decide_eq_true (by kernel_rfl)) (by unfold Func.isWrapper; first | (rw [if_pos (by decide +kernel)]; kernel_rfl) | (rw [if_neg (by decide +kernel)]; exact ⟨rfl, rfl⟩))
    (fun os started H enc _ => fnExactTimesOf_lifted os started H enc)

#print axioms fnExactTimesOf_holds
end Go.Proofs.YthfoibejlpfhpaaGreat
