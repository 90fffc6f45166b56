/- Which parts of a body come late, one by one: lists of truth values; the reference and the program. -/
import Derived.Test.YthfoibejlpfhpaaGreatWp
import Derived.Test.YthfoibejlpfhpaaGreatWm
import Derived.Test.YthfoibejlpfhpaaGreatWa
import Derived.Test.YthfoibejlpfhpaaGreatWn
set_option linter.unusedVariables false
set_option linter.unusedSimpArgs false
namespace Go.Proofs.YthfoibejlpfhpaaGreat
open Go Go.Proofs Go.Proofs.Tryz Go.IntWalk

def boolsD (l : List Bool) : List D := l.map fun b => .lit (.bool b)
theorem boolsD_len (l : List Bool) : (boolsD l).length = l.length := by simp [boolsD]
theorem boolsD_app (l m : List Bool) : boolsD l ++ boolsD m = boolsD (l ++ m) := by simp [boolsD]
theorem boolsD_foot : ∀ l : List Bool, footL (boolsD l) = []
  | [] => rfl
  | s :: l => by simp only [boolsD, List.map_cons, footL, D.foot, List.nil_append]; exact boolsD_foot l
theorem boolsD_flat : ∀ l : List Bool, flat0L (boolsD l)
  | [] => trivial
  | s :: l => ⟨trivial, boolsD_flat l⟩
theorem own_bools {N N' : Nat} (l : List Bool) : OwnL N N' (boolsD l) := ⟨by rw [boolsD_foot]; simp, boolsD_flat l, by rw [boolsD_foot]; simp, by rw [boolsD_foot]; simp⟩
theorem bools_all : ∀ l : List Bool, All2 (fun b d => d = .lit (.bool b)) l (boolsD l)
  | [] => rfl
  | s :: l => ⟨_, _, rfl, rfl, bools_all l⟩
mutual
def Tm.times : Tm → List Bd → List Bool
  | .mk k nm ot n ty re l, v => (Tm.mk k nm ot n ty re l).late v :: (if k = 8 then tmsTL l nm v else tmsT l v)
def tmsT : List Tm → List Bd → List Bool
  | [], _ => []
  | t :: ts, v => t.times v ++ tmsT ts v
def tmsTL : List Tm → ByteArray → List Bd → List Bool
  | [], _, _ => []
  | t :: ts, nm, v => t.times v ++ tmsT ts (v ++ [(nm, t.late v)])
end
mutual
theorem Tm.times_len : ∀ (t : Tm) (v : List Bd), (t.times v).length = t.sz
  | .mk k nm ot n ty re l, v => by
    simp only [Tm.times, Tm.sz, List.length_cons]
    have h1 := tmsT_len l v; have h2 := tmsTL_len l nm v
    split <;> omega
theorem tmsT_len : ∀ (l : List Tm) (v : List Bd), (tmsT l v).length = tmsSz l
  | [], _ => rfl
  | t :: ts, v => by simp only [tmsT, tmsSz, List.length_append]; rw [t.times_len v, tmsT_len ts v]
theorem tmsTL_len : ∀ (l : List Tm) (nm : ByteArray) (v : List Bd), (tmsTL l nm v).length = tmsSz l
  | [], _, _ => rfl
  | t :: ts, nm, v => by simp only [tmsTL, tmsSz, List.length_append]; rw [t.times_len v, tmsT_len ts]
end
/-- returns these truth values in memory of its own -/
def RetBs (f : FuncId) (args : List PV) (l : List Bool) : Prop := ∀ (N : Nat) (Q : QT [.sl 0]), (∀ a c N', N ≤ N' → Own N N' (.sl a 0 (boolsD l) c) → Q a (boolsD l) c N') → ACalls prog f [.sl 0] args N Q
/-- what is still to come ahead of part i -/
def timesR (k : Int) (nm : ByteArray) (b0 : Bool) (v : List Bd) (i : Nat) (xs : List Tm) : List Bool := if k = 8 then (if i = 0 then tmsTL xs nm v else tmsT xs (v ++ [(nm, b0)])) else tmsT xs v
theorem timesR_nil {k : Int} {nm : ByteArray} {b0 : Bool} {v : List Bd} {i : Nat} : timesR k nm b0 v i [] = [] := by
  unfold timesR; split
  · split <;> rfl
  · rfl
theorem timesR_cons {k : Int} {nm : ByteArray} {b0 : Bool} {v : List Bd} {i : Nat} {x : Tm} {xs : List Tm} (h0 : i = 0 → b0 = x.late v) :
    timesR k nm b0 v i (x :: xs) = x.times (if k = 8 ∧ i ≠ 0 then v ++ [(nm, b0)] else v) ++ timesR k nm b0 v (i + 1) xs := by
  unfold timesR
  by_cases hk : k = 8
  · by_cases hi : i = 0
    · rw [if_pos hk, if_pos hi, if_neg (by simp [hi]), if_pos hk, if_neg (by omega), tmsTL, h0 hi]
    · rw [if_pos hk, if_neg hi, if_pos ⟨hk, hi⟩, if_pos hk, if_neg (by omega), tmsT]
  · rw [if_neg hk, if_neg (by simp [hk]), if_neg hk, tmsT]
theorem timesR_top {k : Int} {nm ot : ByteArray} {n : Int} {ty re : Ty} {l : List Tm} {b0 : Bool} {v : List Bd} : (Tm.mk k nm ot n ty re l).times v = [(Tm.mk k nm ot n ty re l).late v] ++ timesR k nm b0 v 0 l := by
  simp only [Tm.times, timesR, if_true]; rfl
theorem c_l16Times : ∀ (t : Tm) (d : D), t.Is d → t.ok = true → ∀ (v : List Bd) (a : Option Addr) (c : Nat), v.length + t.cnt ≤ 1073741824 → RetBs 54 [.dg 9 d, .sv a 2 (v.map bdD) c] (t.times v) := by
  refine Tm.ind fun k nm ot n0 ty re l ih d hd hok v a c hc N Q hQ => ?_
  have hlate := c_l16Late _ d hd hok v a c hc
  have hsz := (Tm.mk k nm ot n0 ty re l).times_len v
  have hszc := (Tm.mk k nm ot n0 ty re l).sz_cnt
  obtain ⟨t0, t1, r0, r1, a1, es, c1, rfl, hh, hlen, hes⟩ := Tm.is_mk.1 hd
  have node := node_of hok
  simp only [Tm.cnt] at hc hszc
  have hlp : k = 8 → ∃ x0 x1, l = [x0, x1] ∧ x0.Is (es.getD 0 default) ∧ es.length = 2 := fun h8 => by
    have har := node.ar
    subst h8
    rw [show arOf 8 nm = 2 from rfl] at har
    obtain ⟨x0, x1, d0, d1, h, he, h0, _⟩ := two_parts hes har
    exact ⟨x0, x1, h, by rw [he]; exact h0, by rw [he]; rfl⟩
  obtain ⟨b0, hb0⟩ : ∃ b0, b0 = ((l.head?.map fun x0 => x0.late v).getD false) := ⟨_, rfl⟩
  have htop := timesR_top (k := k) (nm := nm) (ot := ot) (n := n0) (ty := ty) (re := re) (l := l) (b0 := b0) (v := v)
  refine w_spec_l16Times N _ a _ c Q fun _ _ N1 hN1 => hlate N1 _ fun N2 hN2 _ => ?_
  have key := up hes hlen (fun i xs => ∀ (done : List Bool) (q N' : Nat), N ≤ N' → (i = 0 → xs = l) → (∀ y ∈ xs, y ∈ l) → done ++ timesR k nm b0 v i xs = (Tm.mk k nm ot n0 ty re l).times v →
    L_spec_l16Times_3 Q N a (v.map bdD) c (boolsD done).length q i (.ag [.lit (.int .i64 k), .lit (.string nm), .lit (.string ot), .lit (.int .i64 n0), t0, t1, r0, r1, .sl a1 9 es c1]) (boolsD done) q N') ?_ ?_
  · exact key [_] 1 N2 (by omega) (fun _ => rfl) (fun y h => h) htop.symm
  · intro i hlt _ done q N' hN' _ _ hdn
    rw [timesR_nil, List.append_nil] at hdn
    subst hdn
    refine l_spec_l16Times_3 _ _ _ _ _ _ _ _ _ _ _ _ ?_
    repeat' first|with_reducible intro _|simp only[hlt,Y1,Y2,Y3,Y4]|(with_reducible first|refine X1 ?_ ?_|refine X2 ?_ ?_|refine X3 ?_ ?_|refine X4 ?_ ?_|refine X5 ?_ ?_|refine X6 ?_ ?_|refine X7 ?_ ?_|refine X8 ?_ ?_|refine X9 ?_ ?_)|refine⟨_,_,_,rfl,?_⟩|refine⟨_,rfl,?_⟩|((with_reducible refine And.intro ?_ ?_);·first|omega|trivial|(show _=_;rfl)|((with_reducible refine And.intro ?_ ?_)<;>first|omega|trivial|(show _=_;rfl)))|fail
    rename_i a9 N11 hN11 hf N12 hN12
    exact hQ _ _ _ (by omega) ((own_sl (N1 := N11) (own_bools _) hf (Nat.le_refl _)).mono (Nat.le_refl _) hN12)
  · intro i x xs hat _ ih2 done q N' hN' h0 hsub hdn
    have hb := hat.b
    have hxc := tms_mem_cnt hat.m
    rw [timesR_cons (fun hi => by rw [hb0, ← h0 hi]; rfl), ← List.append_assoc] at hdn
    have hlen2 := congrArg List.length hdn
    simp only [List.length_append] at hlen2
    have hap : ∀ w : List Bool, w.length ≤ x.sz → apBound (boolsD done) (boolsD w) 1 := fun w hw => by
      have := x.sz_cnt
      unfold apBound; rw [List.length_append, boolsD_len, boolsD_len]; omega
    refine l_spec_l16Times_3 _ _ _ _ _ _ _ _ _ _ _ _ ?_
    by_cases h8 : k = 8 ∧ i ≠ 0
    · obtain ⟨h8, hi0⟩ := h8
      obtain ⟨x0, x1, hl2, hx0, hes2⟩ := hlp h8
      have hx0l : x0 ∈ l := by rw [hl2]; simp
      have hi1 : i = 1 := by omega
      have hv1 : v.length + 1 + x.cnt ≤ 1073741824 := by omega
      have hc0 := tms_mem_cnt hx0l
      have hbe : b0 = x0.late v := by rw [hb0, hl2]; rfl
      rw [if_pos ⟨h8, hi0⟩] at hdn
      subst hi1
      subst h8
      have hxl := (x.times_len (v ++ [(nm, b0)]))
      have e1 : ((((1 : Nat) : Int)) == 1) = true := rfl
      have hwith := c_l16With v (by omega) a c nm (x0.late v)
      rw [← hbe] at hwith
      have hl0 := c_l16Late x0 _ hx0 (node.sub _ hx0l) v a c (by omega)
      rw [← hbe] at hl0
      repeat' first|with_reducible intro _|simp only[hat.lt, hat.w, Int.toNat_natCast, beq_self_eq_true, e1,Y1,Y2,Y3,Y4]|(with_reducible first|refine X1 ?_ ?_|refine X2 ?_ ?_|refine X3 ?_ ?_|refine X4 ?_ ?_|refine X5 ?_ ?_|refine X6 ?_ ?_|refine X7 ?_ ?_|refine X8 ?_ ?_|refine X9 ?_ ?_)|refine⟨_,_,_,rfl,?_⟩|refine⟨_,rfl,?_⟩|((with_reducible refine And.intro ?_ ?_);·first|omega|trivial|(show _=_;rfl)|((with_reducible refine And.intro ?_ ?_)<;>first|omega|trivial|(show _=_;rfl)))|refine hl0 _ _ ?_|refine hwith _ _ ?_|refine (ih x hat.m _ hat.r (node.sub x hat.m) (v ++ [(nm, b0)]) _ _ (by simp; omega)) _ _ ?_|fail
      refine ⟨hap _ (by omega), fun c5 => ?_⟩
      rw [boolsD_app]
      exact ih2 _ _ _ (by omega) (fun h => by omega) (fun y hy => hsub y (List.mem_cons_of_mem _ hy)) hdn
    · rw [if_neg h8] at hdn
      have hxl := (x.times_len v)
      repeat' first|with_reducible intro _|simp only[hat.lt, hat.w, Int.toNat_natCast,Y1,Y2,Y3,Y4]|(with_reducible first|refine X1 ?_ ?_|refine X2 ?_ ?_|refine X3 ?_ ?_|refine X4 ?_ ?_|refine X5 ?_ ?_|refine X6 ?_ ?_|refine X7 ?_ ?_|refine X8 ?_ ?_|refine X9 ?_ ?_)|refine⟨_,_,_,rfl,?_⟩|refine⟨_,rfl,?_⟩|((with_reducible refine And.intro ?_ ?_);·first|omega|trivial|(show _=_;rfl)|((with_reducible refine And.intro ?_ ?_)<;>first|omega|trivial|(show _=_;rfl)))|refine (ih x hat.m _ hat.r (node.sub x hat.m) v a c (by omega)) _ _ ?_|fail
      all_goals first
        | exact absurd ⟨by assumption, by omega⟩ h8
        | (refine ⟨hap _ (by omega), fun c5 => ?_⟩
           rw [boolsD_app]
           exact ih2 _ _ _ (by omega) (fun h => by omega) (fun y hy => hsub y (List.mem_cons_of_mem _ hy)) hdn)
theorem c_all : ∀ (t : Tm) (d : D), t.Is d → t.ok = true → ∀ (v : List Pl) (a : Option Addr) (c : Nat), v.length + t.cnt ≤ 1073741824 → RetBs 58 [.sv a 3 (v.map plD) c, .dg 9 d] (t.times (v.map plB)) := by
  refine Tm.ind fun k nm ot n0 ty re l ih d hd hok v a c hc N Q hQ => ?_
  have hlate := c_isDynamic _ d hd hok v a c hc
  have hsz := (Tm.mk k nm ot n0 ty re l).times_len (v.map plB)
  have hszc := (Tm.mk k nm ot n0 ty re l).sz_cnt
  obtain ⟨t0, t1, r0, r1, a1, es, c1, rfl, hh, hlen, hes⟩ := Tm.is_mk.1 hd
  have node := node_of hok
  simp only [Tm.cnt] at hc hszc
  have hlp : k = 8 → ∃ x0 x1, l = [x0, x1] ∧ x0.Is (es.getD 0 default) ∧ es.length = 2 := fun h8 => by
    have har := node.ar
    subst h8
    rw [show arOf 8 nm = 2 from rfl] at har
    obtain ⟨x0, x1, d0, d1, h, he, h0, _⟩ := two_parts hes har
    exact ⟨x0, x1, h, by rw [he]; exact h0, by rw [he]; rfl⟩
  obtain ⟨b0, hb0⟩ : ∃ b0, b0 = ((l.head?.map fun x0 => x0.late (v.map plB)).getD false) := ⟨_, rfl⟩
  have htop := timesR_top (k := k) (nm := nm) (ot := ot) (n := n0) (ty := ty) (re := re) (l := l) (b0 := b0) (v := v.map plB)
  refine w_impl_places_all N a _ c _ Q fun _ _ N1 hN1 => hlate N1 _ fun N2 hN2 _ => ⟨_, _, _, rfl, ?_⟩
  have key := up hes hlen (fun i xs => ∀ (done : List Bool) (q N' : Nat), N ≤ N' → (i = 0 → xs = l) → done ++ timesR k nm b0 (v.map plB) i xs = (Tm.mk k nm ot n0 ty re l).times (v.map plB) →
    L_impl_places_all_3 Q N a (v.map plD) c (boolsD done).length q a1 es c1 es.length i (.ag [.lit (.int .i64 k), .lit (.string nm), .lit (.string ot), .lit (.int .i64 n0), t0, t1, r0, r1, .sl a1 9 es c1]) (boolsD done) q N') ?_ ?_
  · exact key [_] 1 N2 (by omega) (fun _ => rfl) htop.symm
  · intro i hlt _ done q N' hN' _ hdn
    rw [timesR_nil, List.append_nil] at hdn
    subst hdn
    refine l_impl_places_all_3 _ _ _ _ _ _ _ _ _ _ _ _ _ _ _ _ ?_
    repeat' first|with_reducible intro _|simp only[hlt,Y1,Y2,Y3,Y4]|(with_reducible first|refine X1 ?_ ?_|refine X2 ?_ ?_|refine X3 ?_ ?_|refine X4 ?_ ?_|refine X5 ?_ ?_|refine X6 ?_ ?_|refine X7 ?_ ?_|refine X8 ?_ ?_|refine X9 ?_ ?_)|refine⟨_,_,_,rfl,?_⟩|refine⟨_,rfl,?_⟩|((with_reducible refine And.intro ?_ ?_);·first|omega|trivial|(show _=_;rfl)|((with_reducible refine And.intro ?_ ?_)<;>first|omega|trivial|(show _=_;rfl)))|fail
    rename_i a9 N11 hN11 hf N12 hN12
    exact hQ _ _ _ (by omega) ((own_sl (N1 := N11) (own_bools _) hf (Nat.le_refl _)).mono (Nat.le_refl _) hN12)
  · intro i x xs hat _ ih2 done q N' hN' h0 hdn
    have hb := hat.b
    have hxc := tms_mem_cnt hat.m
    rw [timesR_cons (fun hi => by rw [hb0, ← h0 hi]; rfl), ← List.append_assoc] at hdn
    have hlen2 := congrArg List.length hdn
    simp only [List.length_append] at hlen2
    have hap : ∀ w : List Bool, w.length ≤ x.sz → apBound (boolsD done) (boolsD w) 1 := fun w hw => by
      have := x.sz_cnt
      unfold apBound; rw [List.length_append, boolsD_len, boolsD_len]; omega
    have hins := c_inside (k := k) (nm := nm) (ot := ot) (n0 := n0) (t0 := t0) (t1 := t1) (r0 := r0) (r1 := r1) (a1 := a1) (es := es) (c1 := c1) v (by omega) a c i b0 (fun h8 hc => by
        obtain ⟨x0, x1, _, _, hl⟩ := hlp h8; rw [hc] at hl; simp at hl) (fun h8 => by
        obtain ⟨x0, x1, hl, hx0, _⟩ := hlp h8
        have hx0l : x0 ∈ l := by rw [hl]; simp
        have hcx := tms_mem_cnt hx0l
        have hbe : b0 = x0.late (v.map plB) := by rw [hb0, hl]; rfl
        rw [hbe]
        exact c_isDynamic x0 _ hx0 (node.sub _ hx0l) v a c (by omega))
    have hi8 : (insideP k nm b0 v i).map plB = if k = 8 ∧ i ≠ 0 then v.map plB ++ [(nm, b0)] else v.map plB := by
      unfold insideP; split <;> simp [plB]
    rw [← hi8] at hdn
    have hxl := x.times_len ((insideP k nm b0 v i).map plB)
    have hvl8 : (insideP k nm b0 v i).length + x.cnt ≤ 1073741824 := by
      unfold insideP
      split <;> first | (simp; omega) | omega
    refine l_impl_places_all_3 _ _ _ _ _ _ _ _ _ _ _ _ _ _ _ _ ?_
    repeat' first|with_reducible intro _|simp only[hat.lt, hat.w, Int.toNat_natCast,Y1,Y2,Y3,Y4]|(with_reducible first|refine X1 ?_ ?_|refine X2 ?_ ?_|refine X3 ?_ ?_|refine X4 ?_ ?_|refine X5 ?_ ?_|refine X6 ?_ ?_|refine X7 ?_ ?_|refine X8 ?_ ?_|refine X9 ?_ ?_)|refine⟨_,_,_,rfl,?_⟩|refine⟨_,rfl,?_⟩|((with_reducible refine And.intro ?_ ?_);·first|omega|trivial|(show _=_;rfl)|((with_reducible refine And.intro ?_ ?_)<;>first|omega|trivial|(show _=_;rfl)))|refine hins _ _ ?_|refine (ih x hat.m _ hat.r (node.sub x hat.m) (insideP k nm b0 v i) _ _ hvl8) _ _ ?_|fail
    refine ⟨hap _ (by omega), fun c5 => ?_⟩
    rw [boolsD_app]
    exact ih2 _ _ _ (by omega) (fun h => by omega) hdn
def timesOf (g : List Pm) (e : Tm) : List Bool := if (bodyTy g e).isSome then e.times (envOf g) else []
theorem timesOf_len (g : List Pm) (e : Tm) : (timesOf g e).length ≤ e.cnt := by
  unfold timesOf
  split
  · rw [e.times_len]; exact e.sz_cnt
  · simp
theorem own_bools_nil {N N' : Nat} : Own N N' (.sl none 0 (boolsD []) 0) := ⟨by simp [D.foot, boolsD, footL], ⟨by simp, trivial⟩, by simp [D.foot, boolsD, footL], by simp [D.foot, boolsD, footL]⟩
theorem c_spec_TimesOf {g : List Pm} {es : List D} (h : Pms g es) (hg : g.length ≤ 536870000) {e : Tm} {d : D} (he : e.Is d) (hc : e.cnt ≤ 536870000) (a : Option Addr) (c : Nat) : RetBs 19 [.sv a 4 es c, .dg 9 d] (timesOf g e) := fun N Q hQ => by
  refine w_spec_TimesOf N a es c d Q fun _ _ N1 hN1 => ?_
  refine c_spec_BodyType h (by omega) he hc a c N1 _ fun x N2 hN2 _ _ _ => Br.not (fun hb => ?_) fun hb N5 hN5 => ?_
  · rw [timesOf, if_neg (by simp [hb])] at hQ
    exact ⟨⟨rfl, rfl⟩, ⟨rfl, rfl⟩, fun a3 N3 hN3 hf N4 hN4 => hQ _ _ _ (by omega) ((own_sl (N1 := N3) (own_bools []) hf (Nat.le_refl _)).mono (Nat.le_refl _) hN4)⟩
  · rw [timesOf, if_pos hb] at hQ
    refine c_l16Env h (by omega) a c N5 _ fun a2 c2 N6 hN6 _ _ N7 hN7 => ?_
    obtain ⟨_, hv, _⟩ := bodyTy_some hb
    refine c_l16Times e d he (vd_ok hv) (envOf g) a2 c2 (by rw [envOf_len]; omega) N7 _ fun a4 c4 N8 hN8 own _ _ N9 hN9 => ?_
    exact hQ _ _ _ (by omega) (own.mono (by omega) hN9)
theorem c_impl_TimesOf {g : List Pm} {es : List D} (h : Pms g es) (hg : g.length ≤ 536870000) (hc2 : ∀ x ∈ g, x.ty.cnt ≤ 1073741824) {e : Tm} {d : D} (he : e.Is d) (hc : e.cnt ≤ 1048576000 / 2) (a : Option Addr) (c : Nat) :
    RetBs 20 [.sv a 4 es c, .dg 9 d] (timesOf g e) := fun N Q hQ => by
  refine w_impl_TimesOf N a es c d Q fun _ _ N1 hN1 => ?_
  refine c_impl_BodyType h (by omega) hc2 he hc a c N1 _ fun x N2 hN2 _ _ _ _ => Br.not (fun hb N3 hN3 => ?_) fun hb N4 hN4 => ?_
  · rw [timesOf, if_neg (by simp [hb])] at hQ
    exact hQ _ _ _ (by omega) own_bools_nil
  · rw [timesOf, if_pos hb] at hQ
    refine c_times0 h (by omega) a c N4 _ fun a2 c2 N5 hN5 _ _ N6 hN6 => ?_
    obtain ⟨_, hv, _⟩ := bodyTy_some hb
    refine c_all e d he (vd_ok hv) (plOf g) a2 c2 (by rw [plOf_len]; omega) N6 _ fun a4 c4 N7 hN7 own _ _ N8 hN8 => ?_
    rw [plOf_env] at own ⊢
    exact hQ _ _ _ (by omega) (own.mono (by omega) hN8)
end Go.Proofs.YthfoibejlpfhpaaGreat

/- CountDynamic and TimesOf: the laws. -/
set_option linter.unusedVariables false
set_option linter.unusedSimpArgs false
namespace Go.Proofs.YthfoibejlpfhpaaGreat
open Go Go.Proofs Go.Proofs.Tryz Go.IntWalk

def cntB : List Bool → Nat
  | [] => 0
  | b :: l => (if b then 1 else 0) + cntB l
theorem cntB_len : ∀ l : List Bool, cntB l ≤ l.length
  | [] => Nat.le_refl _
  | b :: l => by simp only [cntB, List.length_cons]; have := cntB_len l; split <;> omega
theorem c_l1Bit (b : Bool) : RetI 45 [.bool b] ((if b then 1 else 0 : Nat) : Int) := fun N Q hQ => w_spec_l1Bit N b Q (Br.of (fun h N1 hN1 => Qi (hQ _ hN1) (by rw [h]; rfl)) fun h N1 hN1 => Qi (hQ _ hN1) (by rw [h]; rfl))
theorem c_bit (b : Bool) : RetI 49 [.bool b] ((if b then 1 else 0 : Nat) : Int) := fun N Q hQ => w_impl_bit N b Q (Br.of (fun h N1 hN1 => Qi (hQ _ hN1) (by rw [h]; rfl)) fun h N1 hN1 => Qi (hQ _ hN1) (by rw [h]; rfl))
theorem c_spec_CountDynamic {g : List Pm} {es : List D} (h : Pms g es) (hg : g.length ≤ 536870000) {e : Tm} {d : D} (he : e.Is d) (hc : e.cnt ≤ 536870000) (a : Option Addr) (c : Nat) : RetI 13 [.sv a 4 es c, .dg 9 d] (cntB (timesOf g e)) := fun N Q hQ => by
  have hl := timesOf_len g e
  refine w_spec_CountDynamic N a es c d Q fun _ _ N1 hN1 => ?_
  refine c_spec_TimesOf h hg he hc a c N1 _ fun a2 c2 N2 hN2 _ _ _ => ?_
  generalize timesOf g e = o at *
  have ho := cntB_len o
  refine up (bools_all o) (by rw [boolsD_len]; omega) (fun i xs => ∀ (m : Nat) (N' : Nat), N ≤ N' → m + cntB xs = cntB o → L_spec_CountDynamic_4 Q N m a2 (boolsD o) c2 i N') ?_ ?_ 0 N2 (by omega) (by simp)
  · intro i hlt _ m N' hN' hm
    refine l_spec_CountDynamic_4 _ _ _ _ _ _ _ _ ?_
    repeat' first|with_reducible intro _|simp only[hlt,Y1,Y2,Y3,Y4]|(with_reducible first|refine X1 ?_ ?_|refine X2 ?_ ?_|refine X3 ?_ ?_|refine X4 ?_ ?_|refine X5 ?_ ?_|refine X6 ?_ ?_|refine X7 ?_ ?_|refine X8 ?_ ?_|refine X9 ?_ ?_)|refine⟨_,_,_,rfl,?_⟩|refine⟨_,rfl,?_⟩|((with_reducible refine And.intro ?_ ?_);·first|omega|trivial|(show _=_;rfl)|((with_reducible refine And.intro ?_ ?_)<;>first|omega|trivial|(show _=_;rfl)))|fail
    exact Qi (hQ _ (by omega)) (by simp only [cntB] at hm; omega)
  · intro i x xs hat _ ih2 m N' hN' hm
    have hb := hat.b
    simp only [cntB] at hm
    refine l_spec_CountDynamic_4 _ _ _ _ _ _ _ _ ?_
    have hd := hat.r
    repeat' first|with_reducible intro _|simp only[hat.lt, hat.w, Int.toNat_natCast, hd,Y1,Y2,Y3,Y4]|(with_reducible first|refine X1 ?_ ?_|refine X2 ?_ ?_|refine X3 ?_ ?_|refine X4 ?_ ?_|refine X5 ?_ ?_|refine X6 ?_ ?_|refine X7 ?_ ?_|refine X8 ?_ ?_|refine X9 ?_ ?_)|refine⟨_,_,_,rfl,?_⟩|refine⟨_,rfl,?_⟩|((with_reducible refine And.intro ?_ ?_);·first|omega|trivial|(show _=_;rfl)|((with_reducible refine And.intro ?_ ?_)<;>first|omega|trivial|(show _=_;rfl)))|refine (c_l1Bit _) _ _ ?_|fail
    rw [i64_in _ (by split <;> omega)]
    have key := fun N'' (h : N ≤ N'') => ih2 (m + if x = true then 1 else 0) N'' h (by omega)
    simp only [Int.natCast_add] at key
    exact key _ (by omega)
theorem c_impl_CountDynamic {g : List Pm} {es : List D} (h : Pms g es) (hg : g.length ≤ 536870000) (hc2 : ∀ x ∈ g, x.ty.cnt ≤ 1073741824) {e : Tm} {d : D} (he : e.Is d) (hc : e.cnt ≤ 1048576000 / 2) (a : Option Addr) (c : Nat) :
    RetI 16 [.sv a 4 es c, .dg 9 d] (cntB (timesOf g e)) := fun N Q hQ => by
  have hl := timesOf_len g e
  refine w_impl_CountDynamic N a es c d Q fun _ _ N1 hN1 => ?_
  refine c_impl_TimesOf h hg hc2 he hc a c N1 _ fun a2 c2 N2 hN2 _ _ _ => ?_
  generalize timesOf g e = o at *
  have ho := cntB_len o
  refine up (bools_all o) (by rw [boolsD_len]; omega) (fun i xs => ∀ (m : Nat) (N' : Nat), N ≤ N' → m + cntB xs = cntB o → L_impl_CountDynamic_3 Q N m a2 (boolsD o) c2 (boolsD o).length i N') ?_ ?_ 0 N2 (by omega) (by simp)
  · intro i hlt _ m N' hN' hm
    refine l_impl_CountDynamic_3 _ _ _ _ _ _ _ _ _ ?_
    repeat' first|with_reducible intro _|simp only[hlt,Y1,Y2,Y3,Y4]|(with_reducible first|refine X1 ?_ ?_|refine X2 ?_ ?_|refine X3 ?_ ?_|refine X4 ?_ ?_|refine X5 ?_ ?_|refine X6 ?_ ?_|refine X7 ?_ ?_|refine X8 ?_ ?_|refine X9 ?_ ?_)|refine⟨_,_,_,rfl,?_⟩|refine⟨_,rfl,?_⟩|((with_reducible refine And.intro ?_ ?_);·first|omega|trivial|(show _=_;rfl)|((with_reducible refine And.intro ?_ ?_)<;>first|omega|trivial|(show _=_;rfl)))|fail
    exact Qi (hQ _ (by omega)) (by simp only [cntB] at hm; omega)
  · intro i x xs hat _ ih2 m N' hN' hm
    have hb := hat.b
    simp only [cntB] at hm
    refine l_impl_CountDynamic_3 _ _ _ _ _ _ _ _ _ ?_
    have hd := hat.r
    repeat' first|with_reducible intro _|simp only[hat.lt, hat.w, Int.toNat_natCast, hd,Y1,Y2,Y3,Y4]|(with_reducible first|refine X1 ?_ ?_|refine X2 ?_ ?_|refine X3 ?_ ?_|refine X4 ?_ ?_|refine X5 ?_ ?_|refine X6 ?_ ?_|refine X7 ?_ ?_|refine X8 ?_ ?_|refine X9 ?_ ?_)|refine⟨_,_,_,rfl,?_⟩|refine⟨_,rfl,?_⟩|((with_reducible refine And.intro ?_ ?_);·first|omega|trivial|(show _=_;rfl)|((with_reducible refine And.intro ?_ ?_)<;>first|omega|trivial|(show _=_;rfl)))|refine (c_bit _) _ _ ?_|fail
    rw [i64_in _ (by split <;> omega)]
    have key := fun N'' (h : N ≤ N'') => ih2 (m + if x = true then 1 else 0) N'' h (by omega)
    simp only [Int.natCast_add] at key
    exact key _ (by omega)
/-- the law FnExactCountDynamic: for all data it answers true -/
theorem law_CountDynamic {g : List Pm} {es : List D} {t : Tm} {d : D} (ctx : Pms g es) (he : t.Is d) (a : Option Addr) (c : Nat) (N : Nat) :
    ACalls prog 3 [.bool] [.sv a 4 es c, .dg 9 d] N (fun r _ => r = true) := by
  refine w_laws_FnExactCountDynamic N a es c d _ fun hB0 hB1 N1 hN1 => ?_
  refine c_szParamS ctx a c 1048576 (by omega) (by omega) N1 _ fun r N2 hN2 hr _ => Br.dec (fun _ N3 _ => rfl) fun hneg N4 hN4 => ?_
  obtain ⟨hr0, hr1, hgl, hgc⟩ := hr.resolve_left (by omega)
  refine c_szTerm t d he r (by omega) (by omega) N4 _ fun r2 N5 hN5 hr2 _ => Br.dec (fun _ N6 _ => rfl) fun hneg2 N7 hN7 => ?_
  obtain ⟨hq0, hq1, hcn⟩ := hr2.resolve_left (by omega)
  have hcn : t.cnt ≤ 3145731 := by omega
  have hgl : g.length ≤ 1048576 := by omega
  have hgc : ∀ x ∈ g, x.ty.cnt ≤ 1048577 := fun x hx => by have := hgc x hx; omega
  have hgc2 : ∀ x ∈ g, x.ty.cnt ≤ 1073741824 := fun x hx => by have := hgc x hx; omega
  have hgl2 : g.length ≤ 1073741824 := by omega
  have hgl3 : g.length ≤ 536870000 := by omega
  have hcn2 : t.cnt ≤ 1073741824 := by omega
  have hcn3 : t.cnt ≤ 1048576000 / 2 := by omega
  have hcn4 : t.cnt ≤ 536870000 := by omega
  clear hr hr2
  refine c_toParamS ctx hgl2 hgc2 a c N7 _ fun a1 es1 c1 N8 hN8 ctx1 own1 _ _ N9 hN9 => ?_
  refine c_toTerm t d he hcn2 N9 _ fun d1 N10 hN10 he1 own2 _ _ N11 hN11 => ?_
  have hSpec := c_spec_CountDynamic ctx1 hgl3 he1 hcn4 a1 c1
  have hImpl := fun (es2 : List D) (d2 : D) (ctx2 : Pms g es2) (he2 : t.Is d2) a2 c2 => c_impl_CountDynamic ctx2 hgl3 hgc2 he2 hcn3 a2 c2
  generalize cntB (timesOf g t) = o at hSpec hImpl
  refine hSpec N11 _ fun N12 hN12 _ N13 hN13 => ?_
  refine c_toParamS ctx hgl2 hgc2 a c N13 _ fun a2 es2 c2 N14 hN14 ctx2 own3 _ _ N15 hN15 => ?_
  refine c_toTerm t d he hcn2 N15 _ fun d2 N16 hN16 he2 own4 _ _ N17 hN17 => ?_
  refine hImpl es2 d2 ctx2 he2 a2 c2 N17 _ fun N18 hN18 _ => ?_
  refine Br.bne (fun h => absurd rfl h) fun _ N20 hN20 => ?_
  refine c_toParamS ctx hgl2 hgc2 a c N20 _ fun a3 es3 c3 N24 hN24 ctx3 _ _ _ N25 hN25 => ?_
  refine c_eqParamS ctx2 ctx3 a2 a3 c2 c3 N25 _ fun N26 hN26 _ => Br.of (fun h => by simp at h) fun _ N28 hN28 => ?_
  refine c_toTerm t d he hcn2 N28 _ fun d4 N29 hN29 he4 _ _ _ N30 hN30 => ?_
  exact c_eqTerm t d2 d4 he2 he4 N30 _ fun N31 hN31 _ => Br.of (fun h => by simp at h) fun _ N33 hN33 => rfl
end Go.Proofs.YthfoibejlpfhpaaGreat

/- What was read is a list of parameters. -/
set_option linter.unusedVariables false
set_option maxRecDepth 100000
namespace Go.Proofs.YthfoibejlpfhpaaGreat
open Go Go.Proofs Go.Proofs.Tryz

theorem ez65 : ezOf prog 65 = 4 := by kernel_rfl
theorem pms_of_shp {n : Nat} {xs : List D} (h : Shp prog n 22 xs) : ∃ a es c, xs = [.sl a 4 es c] ∧ ∃ g, Pms g es := by
  obtain ⟨m, a, es, c, rfl, rfl, hl, hx⟩ := shpSlice underlying22 h
  rw [ez65]
  refine ⟨a, es, c, rfl, ?_⟩
  obtain ⟨g, hg⟩ := all2_choose (R := Pm.Is) (es := es) fun x hxm => by
    have h := hx x hxm
    · obtain ⟨m, rfl, h⟩ := shpStruct underlying65 h
      obtain ⟨a1, b1, hc, h1, a2, b2, rfl, h2, a3, b3, rfl, h3, rfl⟩ := h
      obtain ⟨nm, rfl, hnm⟩ := shpStr underlying9 h1
      obtain ⟨t0, t1, rfl, ty, hty⟩ := ty_of_shp _ _ h2
      obtain ⟨dy, rfl⟩ := shpBool underlying4 h3
      refine ⟨⟨nm, ty, dy⟩, t0, t1, ?_, hnm, hty⟩
      rw [ag_of (x := x) (n := 4) (by rw [hc]; rfl) (by decide), hc]; rfl
  exact ⟨g, hl, hg⟩
end Go.Proofs.YthfoibejlpfhpaaGreat

/- FnExactCountDynamic holds as it is stated: for every input that the statement's row admits, the call returns true and each argument reads afterwards as before. No condition of our own. -/
namespace Go.Proofs.YthfoibejlpfhpaaGreat
open Go Go.Proofs Go.Proofs.Tryz Go.ChangeShapes Go.WideShapes Go.ChangeAt Go.RowKit

set_option maxHeartbeats 1600000 in
set_option maxRecDepth 100000 in
theorem fnExactCountDynamic_lifted (os : Os) (started : os.Started) (H : Type) (enc : TypeId × Value → H) :
    ReturnsInHanded {} checked os 3 .any (Rows.fnExactCountDynamicSpec.pre6 enc prog Tryz.f3 Rows.fnExactCountDynamicRow.domain false) (Rows.fnExactCountDynamicSpec.post enc prog Tryz.f3 false true false false) := by
  refine returnsInHanded_of_change_sized (C := checked) ownKnob_none started (by kernel_rfl) func3
    (ChangeSpec.witness6 (enc := enc) (C := checked) false ⟨#[], #[.slice none 0 0, .agg #[.int .i64 0, .string ⟨#[]⟩, .string ⟨#[]⟩, .int .i64 0, .int .i64 0, .slice none 0 0, .int .i64 0, .slice none 0 0, .slice none 0 0]], []⟩ 8 (by kernel_rfl) (by kernel_rfl) (by kernel_rfl) (by kernel_rfl)) ?_
  intro W base args ds gs before hval0 hW _ hsz _
  have hval : ∀ (j : Nat) t v, Tryz.f3.params[j]? = some t → args[j]? = some v → Value.okWide prog W .any base t v := hval0
  have hW' := hW
  obtain ⟨p, q, hA0, hV, rfl, hfz, _⟩ := hW
  have hA : DataW.TrodAll enc prog W 0 (fun _ => true) true Tryz.f3.params.toList args.toList ds p := hA0
  have hsz : (DataW.weightsEach prog (Tryz.f3.params.toList ++ []) (ds ++ gs)).all (· ≤ reachBytes) = true := hsz
  rw [params3] at hA hval hsz
  obtain ⟨v0, v1, d0, d1, p0, p1, rfl, rfl, rfl, h0, h1⟩ := trodAll_two hA
  obtain ⟨rfl, rfl⟩ := trodVars_none hV
  obtain ⟨n0, aC, esC, cC, e0, hH0, k0⟩ := slice_in plain_TT (by decide) underlying22 (hval 0 22 v0 rfl rfl) h0 (weights_at hsz (j := 0) rfl rfl)
  obtain ⟨n1, xs, e1, hH1, hI1, k1⟩ := struct_in plain_TT (by decide) (by rw [ez28]; decide) (hval 1 28 v1 rfl rfl) h1 (weights_at hsz (j := 1) rfl rfl)
  rw [ez65] at e0 hH0 k0
  have c28 : prog.cellsOf 28 = 9 := by kernel_rfl
  rw [c28] at e1 hI1
  obtain ⟨a', es', c', hsl, g, ctx⟩ := pms_of_shp k0
  cases hsl
  obtain ⟨t, ht, _⟩ := tm_of_shp _ _ k1
  have hc := (law_CountDynamic ctx ht aC cC W.heap.size).h (fun _ => False) W rfl (fun _ h => h.elim) (fun p hp => by
    simp only [List.mem_cons, List.not_mem_nil, or_false] at hp
    rcases hp with rfl | rfl
    · exact ⟨⟨hH0, fun _ _ => id⟩, rfl⟩
    · exact ⟨⟨⟨hH1, fun _ _ => id⟩, hI1⟩, rfl⟩)
  have hargs : ([PV.sv aC 4 esC cC, .dg 9 (.ag xs)].map (PV.val [])).toArray = #[v0, v1] := by
    simp only [List.map_cons, List.map_nil, e0, e1]
  rw [hargs] at hc
  refine hc.mono fun e W' hf => ?_
  exact post_true kids full (by rw [params3]; decide) rfl (by kernel_rfl) underlying4 rfl hW' (ret1_of hf)

theorem fnExactCountDynamic_holds : Rows.FnExactCountDynamicSaid :=
  OpenClaim.holds_of_wide 3 Tryz.f3 rfl rfl rfl rfl rfl rfl rfl ⟨rfl, rfl, rfl, rfl, rfl⟩ rfl rfl rfl rfl rfl (by kernel_rfl) func3 (by kernel_rfl)
    (of_decide_eq_true (by kernel_rfl)) (by unfold Func.isWrapper; first | (rw [if_pos (by decide +kernel)]; kernel_rfl) | (rw [if_neg (by decide +kernel)]; exact ⟨rfl, rfl⟩))
    (fun os started H enc _ => fnExactCountDynamic_lifted os started H enc)

#print axioms fnExactCountDynamic_holds
end Go.Proofs.YthfoibejlpfhpaaGreat
