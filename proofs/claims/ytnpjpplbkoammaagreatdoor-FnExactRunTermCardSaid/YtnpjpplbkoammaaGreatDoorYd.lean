/- Substitution and steps: sizes, and that terms stay terms (no program in sight). -/
import Derived.Test.YtnpjpplbkoammaaGreatDoorYa
import Derived.Test.YtnpjpplbkoammaaGreatDoorYe
import Derived.Test.YtnpjpplbkoammaaGreatDoorKi
import Derived.Test.YtnpjpplbkoammaaGreatDoorKh
set_option linter.unusedVariables false
set_option linter.unusedSimpArgs false
namespace Go.Proofs.YtnpjpplbkoammaaGreatDoor
open Go Go.Proofs Go.Proofs.Tryz Go.IntWalk
theorem xk : ∀ {l : List Tm} {t : Tm}, t ∈ l → t.sz ≤ zl l
 | u :: us, t, h => by
   simp only [zl]
   rcases List.mem_cons.1 h with rfl | h
   ·omega
   ·have := xk h; omega
theorem Tm.sz_pos (t : Tm) : 1 ≤ t.sz := by cases t; simp only [Tm.sz]; omega
theorem zGo : ∀ {l : List Tm}, uF l = true ↔ ∀ x ∈ l, x.ok = true
 | [] => by simp [uF]
 | t :: ts => by simp only [uF, Bool.and_eq_true, zGo (l := ts), List.mem_cons, forall_eq_or_imp]
theorem szL : ∀ {l' l : List Tm}, l'.length = l.length → (∀ (i : Nat) (t' t : Tm), l'[i]? = some t' → l[i]? = some t → t.sz ≤ t'.sz) → zl l ≤ zl l'
 | [], [], _, _ => Nat.le_refl _
 | [], _ :: _, h, _ => by simp at h
 | _ :: _, [], h, _ => by simp at h
 | t' :: ts', t :: ts, h, hr => by
   have h1 := szL (l' := ts') (l := ts) (by simpa using h) fun i a b ha hb => hr (i + 1) a b (by simpa using ha) (by simpa using hb)
   have h0 := hr 0 t' t (by simp) (by simp)
   simp only [zl]; omega
theorem zK6 {f : Nat} (hS : ∀ t x y, t.V → t.sz ≤ (Tm.sub f t x (pZ y)).sz) (k : Int) (n : Nat) (fb : List ByteArray) (x : ByteArray) : ∀ (l : List ByteArray) (s : ByteArray × ByteArray × Tm), s.2.2.V → s.2.2.sz ≤ (rns (Tm.sub f) k n fb x l s).2.2.sz
 | [], s, _ => Nat.le_refl _
 | old :: l, s, hv => by
   have h1 := zK6 hS k n fb x l (rn1 (Tm.sub f) k n fb x old s) ((zH3 (wL f) k n fb x old s).v hv)
   have h2 : s.2.2.sz ≤ (rn1 (Tm.sub f) k n fb x old s).2.2.sz := by
    unfold rn1
    split
    ·split <;> exact hS _ _ _ hv
    ·exact Nat.le_refl _
   simp only [rns]; omega
theorem zDh : ∀ (f : Nat) (t : Tm) (x : ByteArray) (b : Tm), t.V → t.sz ≤ (t.sub f x b).sz
 | 0, t, x, b, _ => by simp only [Tm.sub]; exact Nat.le_refl _
 | f + 1, .mk k nm ot n ty re l, x, b, hv => by
   have ih := zDh f
   have hvm := vg.1 hv.2
   simp only [Tm.sub]
   split
   ·rename_i hk
    split
    ·rw [hv.1 (by assumption)]
     simp only [Tm.sz, zl]; exact Tm.sz_pos b
    ·exact Nat.le_refl _
   ·split
    ·simp only [Tm.sz]
     have := szL (l' := l.map fun t => Tm.sub f t x b) (l := l) (by simp) fun i t' t ht' ht => by
      rw [List.getElem?_map, ht] at ht'
      cases ht'
      exact ih t x b (hvm t (List.mem_of_getElem? ht))
     omega
    ·rename_i hb
     obtain ⟨g1, g2⟩ := xo hb
     split
     ·simp only [Tm.sz]
      have := szL (l' := (l.map fun t => Tm.sub f t x b).set (ye k l.length).toNat (l.getD (ye k l.length).toNat tm0)) (l := l) (by simp) fun i t' t ht' ht => by
       rcases zEz ht' ht with ⟨h1, h2⟩ | ⟨h1, h2⟩
       ·rw [h1, zT g1] at ht
        rw [h2, ← Option.some.inj ht]
        exact Nat.le_refl _
       ·rw [h2]; exact ih t x b (hvm t (List.mem_of_getElem? ht))
      omega
     ·simp only [Tm.sz]
      have := szL (l' := (l.map fun t => Tm.sub f t x b).set (ye k l.length).toNat (Tm.sub f (rns (Tm.sub f) k l.length b.fv x (bdN k nm ot l.length) (nm, ot, l.getD (ye k l.length).toNat tm0)).2.2 x b)) (l := l) (by simp) fun i t' t ht' ht => by
       rcases zEz ht' ht with ⟨h1, h2⟩ | ⟨h1, h2⟩
       ·rw [h1, zT g1] at ht
        rw [h2, ← Option.some.inj ht]
        have hpv := hvm _ (List.mem_of_getElem? (zT g1))
        exact Nat.le_trans (zK6 (fun t x y h => ih t x _ h) k l.length b.fv x (bdN k nm ot l.length) (nm, ot, l.getD (ye k l.length).toNat tm0) hpv) (ih _ x b ((uY (wL f) _ _ _ _ _ _).v hpv))
       ·rw [h2]; exact ih t x b (hvm t (List.mem_of_getElem? ht))
      omega
theorem zNz {k : Int} {s w ot : ByteArray} {n : Nat} (v : ByteArray) (h : s ∈ bdN k w ot n) : s = w ∨ s ∈ bdN k v ot n := by
 unfold bdN at h ⊢
 split at h
 ·simp at h; exact .inl h
 ·rename_i h6
  rw [if_neg h6]
  split at h
  ·simp at h; exact .inl h
  ·rename_i h8
   rw [if_neg h8]
   split at h
   ·rename_i h9
    rw [if_pos h9]
    simp at h
    rcases h with h | h
    ·exact .inl h
    ·exact .inr (by simp [h])
   ·simp at h
theorem zNu {k : Int} {s nm w : ByteArray} {n : Nat} (v : ByteArray) (h : s ∈ bdN k nm w n) : s = w ∨ s ∈ bdN k nm v n := by
 unfold bdN at h ⊢
 split at h
 ·rename_i h6
  rw [if_pos h6]; exact .inr h
 ·rename_i h6
  rw [if_neg h6]
  split at h
  ·rename_i h8
   rw [if_pos h8]; exact .inr h
  ·rename_i h8
   rw [if_neg h8]
   split at h
   ·rename_i h9
    rw [if_pos h9]
    simp at h
    rcases h with h | h
    ·exact .inr (by simp [h])
    ·exact .inl h
   ·simp at h
/-- a free name stays free where another is put in -/
theorem zKS : ∀ (f : Nat) (t : Tm) (s x : ByteArray) (b : Tm), s ∈ t.fv → s ≠ x → s ∈ (t.sub f x b).fv
 | 0, t, s, x, b, h, _ => by simp only [Tm.sub]; exact h
 | f + 1, .mk k nm ot n ty re l, s, x, b, h, hne => by
   have ih := zKS f
   rw [Tm.fv_mem] at h
   simp only [Tm.sub]
   split
   ·rename_i hk
    rcases h with ⟨_, h⟩ | ⟨h, _⟩
    ·rw [if_neg (fun hc => hne (by rw [h, hc]))]
     rw [Tm.fv_mem]
     exact .inl ⟨hk, h⟩
    ·exact absurd hk h
   ·rename_i hk
    obtain ⟨j, p, hj, hs⟩ : ∃ (j : Nat) (x : Tm), l[j]? = some x ∧ s ∈ fvI (ye k l.length) (bdN k nm ot l.length) j x := by
     rcases h with ⟨h, _⟩ | ⟨_, h⟩
     ·exact absurd h hk
     ·exact h
    unfold fvI at hs
    split
    ·rename_i hb
     rw [Tm.fv_mem]
     refine .inr ⟨hk, j, p.sub f x b, by rw [List.getElem?_map, hj]; rfl, ?_⟩
     rw [if_neg (by omega)] at hs
     unfold fvI
     rw [List.length_map, if_neg (by omega)]
     exact ih p s x b hs hne
    ·rename_i hb
     obtain ⟨g1, g2⟩ := xo hb
     have hjl : j < l.length := (List.getElem?_eq_some_iff.1 hj).1
     have hgd := zT g1
     split
     ·rw [Tm.fv_mem]
      by_cases hjb : (j : Int) = ye k l.length
      ·refine .inr ⟨hk, j, p, ?_, ?_⟩
       ·have : (ye k l.length).toNat = j := by omega
        rw [this] at hgd ⊢
        rw [List.getElem?_set_self (by simpa using hjl), ← Option.some.inj (hgd.symm.trans hj)]
       ·unfold fvI; simp only [List.length_set, List.length_map]; exact hs
      ·refine .inr ⟨hk, j, p.sub f x b, ?_, ?_⟩
       ·rw [List.getElem?_set_ne (by omega), List.getElem?_map, hj]; rfl
       ·rw [if_neg hjb] at hs
        unfold fvI
        simp only [List.length_set, List.length_map]
        rw [if_neg hjb]
        exact ih p s x b hs hne
     ·rw [Tm.fv_mem]
      by_cases hjb : (j : Int) = ye k l.length
      ·have hj2 : (ye k l.length).toNat = j := by omega
       rw [hj2] at hgd ⊢
       have hpe : l.getD j tm0 = p := Option.some.inj (hgd.symm.trans hj)
       rw [hpe]
       rw [if_pos hjb, rr] at hs
       obtain ⟨hs1, hs2⟩ := hs
       have r1 : ∀ (old : ByteArray) (st : ByteArray × ByteArray × Tm), s ≠ old → s ∈ st.2.2.fv → s ∉ bdN k st.1 st.2.1 l.length → s ∈ (rn1 (Tm.sub f) k l.length b.fv x old st).2.2.fv ∧ s ∉ bdN k (rn1 (Tm.sub f) k l.length b.fv x old st).1 (rn1 (Tm.sub f) k l.length b.fv x old st).2.1 l.length := fun old st h1 h2 h3 => by
        unfold rn1
        have hfr := zBe (b.fv ++ (st.2.2.fv ++ ([x] ++ bdN k st.1 st.2.1 l.length)))
        generalize fresh (b.fv ++ (st.2.2.fv ++ ([x] ++ bdN k st.1 st.2.1 l.length))) = w at hfr
        have hw : s ≠ w := fun hc => hfr (by rw [← hc]; simp [h2])
        split
        ·split
         ·exact ⟨ih _ _ _ _ h2 h1, fun hc => (zNz st.1 hc).elim hw h3⟩
         ·exact ⟨ih _ _ _ _ h2 h1, fun hc => (zNu st.2.1 hc).elim hw h3⟩
        ·exact ⟨h2, h3⟩
       have rs : ∀ (ns : List ByteArray) (st : ByteArray × ByteArray × Tm), (∀ o ∈ ns, s ≠ o) → s ∈ st.2.2.fv → s ∉ bdN k st.1 st.2.1 l.length → s ∈ (rns (Tm.sub f) k l.length b.fv x ns st).2.2.fv ∧ s ∉ bdN k (rns (Tm.sub f) k l.length b.fv x ns st).1 (rns (Tm.sub f) k l.length b.fv x ns st).2.1 l.length := by
        intro ns
        induction ns with
        | nil => exact fun st _ h2 h3 => ⟨h2, h3⟩
        | cons o os ih2 =>
          intro st h1 h2 h3
          obtain ⟨a1, a2⟩ := r1 o st (h1 o (by simp)) h2 h3
          exact ih2 _ (fun o' ho => h1 o' (by simp [ho])) a1 a2
       obtain ⟨a1, a2⟩ := rs (bdN k nm ot l.length) (nm, ot, p) (fun o ho hc => hs2 (hc ▸ ho)) hs1 hs2
       refine .inr ⟨hk, j, _, List.getElem?_set_self (by simpa using hjl), ?_⟩
       unfold fvI
       simp only [List.length_set, List.length_map]
       rw [if_pos hjb, rr]
       exact ⟨ih _ _ _ _ a1 hne, a2⟩
      ·refine .inr ⟨hk, j, p.sub f x b, ?_, ?_⟩
       ·rw [List.getElem?_set_ne (by omega), List.getElem?_map, hj]; rfl
       ·rw [if_neg hjb] at hs
        unfold fvI
        simp only [List.length_set, List.length_map]
        rw [if_neg hjb]
        exact ih p s x b hs hne
/-- what is put in is there -/
theorem zJ7 {f : Nat} (k : Int) (n : Nat) (fb : List ByteArray) (x : ByteArray) : ∀ (l : List ByteArray) (s : ByteArray × ByteArray × Tm), x ∉ l → x ∈ s.2.2.fv → x ∈ (rns (Tm.sub f) k n fb x l s).2.2.fv
 | [], s, _, h => h
 | old :: l, s, hx, h => by
   refine zJ7 k n fb x l _ (fun hc => hx (by simp [hc])) ?_
   unfold rn1
   have hne : x ≠ old := fun hc => hx (by simp [hc])
   split
   ·split <;> exact zKS f _ _ _ _ h hne
   ·exact h
theorem zKQ : ∀ (f : Nat) (t : Tm) (x : ByteArray) (b : Tm), t.dp ≤ f → x ∈ t.fv → b.sz ≤ (t.sub f x b).sz
 | 0, t, x, b, h, _ => absurd (Tm.dp_pos t) (by omega)
 | f + 1, .mk k nm ot n ty re l, x, b, hd, h => by
   have ih := zKQ f
   rw [Tm.fv_mem] at h
   simp only [Tm.dp] at hd
   have hdp := fun y hy => vu.1 (Nat.le_of_succ_le_succ hd) y hy
   simp only [Tm.sub]
   split
   ·rename_i hk
    rcases h with ⟨_, h⟩ | ⟨h, _⟩
    ·rw [if_pos h.symm]; exact Nat.le_refl _
    ·exact absurd hk h
   ·rename_i hk
    obtain ⟨j, p, hj, hs⟩ : ∃ (j : Nat) (y : Tm), l[j]? = some y ∧ x ∈ fvI (ye k l.length) (bdN k nm ot l.length) j y := by
     rcases h with ⟨h, _⟩ | ⟨_, h⟩
     ·exact absurd h hk
     ·exact h
    unfold fvI at hs
    have hpd := hdp p (List.mem_of_getElem? hj)
    have fin : ∀ (nm' ot' : ByteArray) (l' : List Tm) (y : Tm), l'[j]? = some y → b.sz ≤ y.sz → b.sz ≤ (Tm.mk k nm' ot' n ty re l').sz := fun nm' ot' l' y h1 h2 => by
     have := xk (List.mem_of_getElem? h1)
     simp only [Tm.sz]; omega
    split
    ·rename_i hb
     rw [if_neg (by omega)] at hs
     exact fin _ _ _ (p.sub f x b) (by rw [List.getElem?_map, hj]; rfl) (ih p x b hpd hs)
    ·rename_i hb
     obtain ⟨g1, g2⟩ := xo hb
     have hjl : j < l.length := (List.getElem?_eq_some_iff.1 hj).1
     have hgd := zT g1
     split
     ·rename_i hc
      by_cases hjb : (j : Int) = ye k l.length
      ·exfalso
       have : (ye k l.length).toNat = j := by omega
       rw [this] at hgd hc
       have hpe : l.getD j tm0 = p := Option.some.inj (hgd.symm.trans hj)
       rw [if_pos hjb, rr] at hs
       rw [hpe] at hc
       rcases hc with hc | hc
       ·exact hs.2 hc
       ·exact hc hs.1
      ·rw [if_neg hjb] at hs
       exact fin _ _ _ (p.sub f x b) (by rw [List.getElem?_set_ne (by omega), List.getElem?_map, hj]; rfl) (ih p x b hpd hs)
     ·rename_i hc
      by_cases hjb : (j : Int) = ye k l.length
      ·have hj2 : (ye k l.length).toNat = j := by omega
       rw [hj2] at hgd ⊢
       have hpe : l.getD j tm0 = p := Option.some.inj (hgd.symm.trans hj)
       rw [hpe]
       rw [if_pos hjb, rr] at hs
       have hle := uY (wL f) k l.length b.fv x (bdN k nm ot l.length) (nm, ot, p)
       have hled := hle.d
       refine fin _ _ _ _ (List.getElem?_set_self (by simpa using hjl)) (ih _ x b (Nat.le_trans hled hpd) (zJ7 _ _ _ _ _ _ hs.2 hs.1))
      ·rw [if_neg hjb] at hs
       exact fin _ _ _ (p.sub f x b) (by rw [List.getElem?_set_ne (by omega), List.getElem?_map, hj]; rfl) (ih p x b hpd hs)
theorem zKB {k : Nat} (h : k ≤ 999) : Lib.decDigits k = (if k < 10 then [UInt8.ofNat (48 + k)] else if k < 100 then [UInt8.ofNat (48 + k / 10), UInt8.ofNat (48 + k % 10)] else [UInt8.ofNat (48 + k / 10 / 10), UInt8.ofNat (48 + k / 10 % 10), UInt8.ofNat (48 + k % 10)]) := by
 have e1 : ∀ u, u < 10 → Lib.decDigits u = [UInt8.ofNat (48 + u)] := fun u h => by rw [Lib.decDigits, dif_pos h]
 have e2 : ∀ u, ¬ u < 10 → Lib.decDigits u = Lib.decDigits (u / 10) ++ [UInt8.ofNat (48 + u % 10)] := fun u h => by rw [Lib.decDigits, dif_neg h]
 split
 ·rename_i h1; exact e1 k h1
 ·rename_i h1
  rw [e2 k h1]
  split
  ·rename_i h2; rw [e1 _ (by omega)]; rfl
  ·rename_i h2
   rw [e2 (k / 10) (by omega), e1 _ (by omega)]; rfl
theorem zLD : ∀ a : _root_.Fin 10, yf ⟨#[118, UInt8.ofNat (48 + a.val)]⟩ = true := by decide +kernel
theorem zKJ : ∀ a b : _root_.Fin 10, yf ⟨#[118, UInt8.ofNat (48 + a.val), UInt8.ofNat (48 + b.val)]⟩ = true := by decide +kernel
theorem zKr : ∀ a b c : _root_.Fin 10, yf ⟨#[118, UInt8.ofNat (48 + a.val), UInt8.ofNat (48 + b.val), UInt8.ofNat (48 + c.val)]⟩ = true := by decide +kernel
theorem zMD {k : Nat} (h : k ≤ 999) : yf (vN k) = true := by
 unfold vN
 rw [zKB h]
 split
 ·rename_i h1; exact zLD ⟨k, h1⟩
 ·split
  ·rename_i h1 h2; exact zKJ ⟨k / 10, by omega⟩ ⟨k % 10, by omega⟩
  ·rename_i h1 h2; exact zKr ⟨k / 10 / 10, by omega⟩ ⟨k / 10 % 10, by omega⟩ ⟨k % 10, by omega⟩
theorem zGT {l : List ByteArray} (h : l.length ≤ 998) : yf (fresh l) = true := by
 obtain ⟨k, e, _, h2, _, _⟩ := uP l
 rw [e]
 exact zMD (by omega)
theorem Tm.vc_sz : ∀ t : Tm, t.vc ≤ t.sz := by
 refine Tm.ind fun k nm ot n ty re l ih => ?_
 have key : ∀ l : List Tm, (∀ t ∈ l, t.vc ≤ t.sz) → wJ l ≤ zl l := by
  intro l
  induction l with
  | nil => intro _; exact Nat.le_refl _
  | cons t ts ih2 =>
    intro h
    have h1 := h t (by simp)
    have h2 := ih2 fun x hx => h x (by simp [hx])
    simp only [wJ, zl]; omega
 have := key l ih
 simp only [Tm.vc, Tm.sz]
 split <;> omega
theorem Tm.ok_mk {k : Int} {nm ot : ByteArray} {n : Int} {ty re : Ty} {l : List Tm} : (Tm.mk k nm ot n ty re l).ok = true ↔ (∀ x ∈ l, x.ok = true) ∧ zJ k nm ot n ty re = true ∧ (l.length : Int) = zG8 k nm := by
 simp only [Tm.ok, Bool.and_eq_true, zGo, beq_iff_eq]
theorem zLK {s : ByteArray} (h : yf s = true) : (pZ s).ok = true := by
 refine Tm.ok_mk.2 ⟨by simp, ?_, rfl⟩
 have : (Ty.mk 0 []).valid = false := by decide +kernel
 simp [zJ, rC, this, Ty.zero, Ty.k, Ty.as, inB, xf, h]
/-- the names of a form that binds can be others -/
theorem zLS {k : Int} {nm ot nm' ot' : ByteArray} {n : Int} {ty re : Ty} {m : Nat} (hb : ¬ ye k m < 0) (h : zJ k nm ot n ty re = true) (h1 : yf nm' = true) (h2 : k = 9 → yf ot' = true ∧ nm' ≠ ot') (h3 : k ≠ 9 → ot' = ot) : zJ k nm' ot' n ty re = true ∧ (zG8 k nm' = zG8 k nm) := by
 have hk : k = 6 ∨ k = 8 ∨ k = 9 := by
  rcases w4 k m with h | ⟨_, _, h | h⟩ | ⟨_, _, h⟩
  ·omega
  ·exact .inl h
  ·exact .inr (.inr h)
  ·exact .inr (.inl h)
 rcases hk with rfl | rfl | rfl
 ·have h3 := h3 (by decide)
  subst h3
  refine ⟨?_, rfl⟩
  simp only [zJ, xf, Bool.and_eq_true] at h ⊢
  simp [h1] at h ⊢
  exact ⟨h.1, h.2.1, h.2.2.1, h.2.2.2.1, h.2.2.2.2.1, h.2.2.2.2.2.2⟩
 ·have h3 := h3 (by decide)
  subst h3
  refine ⟨?_, rfl⟩
  simp only [zJ, xf, Bool.and_eq_true] at h ⊢
  simp [h1] at h ⊢
  exact ⟨h.1, h.2.1, h.2.2.1, h.2.2.2.1, h.2.2.2.2.1, h.2.2.2.2.2.2⟩
 ·obtain ⟨h4, h5⟩ := h2 rfl
  refine ⟨?_, rfl⟩
  simp only [zJ, xf, Bool.and_eq_true] at h ⊢
  simp [h1, h4, h5] at h ⊢
  exact ⟨h.1, h.2.1, h.2.2.1, h.2.2.2.1⟩
theorem zMq {k : Int} {nm ot : ByteArray} {n : Int} {ty re : Ty} {m : Nat} (hb : ¬ ye k m < 0) (h : zJ k nm ot n ty re = true) : yf nm = true ∧ (k = 9 → yf ot = true ∧ nm ≠ ot) := by
 have hk : k = 6 ∨ k = 8 ∨ k = 9 := by
  rcases w4 k m with h | ⟨_, _, h | h⟩ | ⟨_, _, h⟩
  ·omega
  ·exact .inl h
  ·exact .inr (.inr h)
  ·exact .inr (.inl h)
 rcases hk with rfl | rfl | rfl
 ·simp only [zJ, xf, Bool.and_eq_true] at h
  refine ⟨?_, fun h => absurd h (by decide)⟩
  simp at h; exact h.2.2.2.2.2.1
 ·simp only [zJ, xf, Bool.and_eq_true] at h
  refine ⟨?_, fun h => absurd h (by decide)⟩
  simp at h; exact h.2.2.2.2.2.1
 ·simp only [zJ, xf, Bool.and_eq_true] at h
  simp at h
  exact ⟨h.2.2.2.2.1, fun _ => ⟨h.2.2.2.2.2.1, h.2.2.2.2.2.2⟩⟩
/-- a term in which a small term is put for a name is a term, if it is small -/
theorem zNK : ∀ (f : Nat) (e : Tm) (x : ByteArray) (b : Tm), e.dp ≤ f → e.ok = true → b.ok = true → (e.sub f x b).sz ≤ 400 → (e.sub f x b).ok = true
 | 0, e, x, b, h, _, _, _ => absurd (Tm.dp_pos e) (by omega)
 | f + 1, .mk k nm ot n ty re l, x, b, hd, he, hb, hs => by
   have ih := zNK f
   obtain ⟨h1, h2, h3⟩ := Tm.ok_mk.1 he
   simp only [Tm.dp] at hd
   have hdp := fun y hy => vu.1 (Nat.le_of_succ_le_succ hd) y hy
   simp only [Tm.sub] at hs ⊢
   split
   ·rename_i hk
    rw [if_pos hk] at hs
    split
    ·exact hb
    ·exact he
   ·rename_i hk
    rw [if_neg hk] at hs
    split
    ·rename_i hbd
     rw [if_pos hbd] at hs
     refine Tm.ok_mk.2 ⟨fun y hy => ?_, h2, by simpa using h3⟩
     obtain ⟨z, hz, rfl⟩ := List.mem_map.1 hy
     have := xk hy
     simp only [Tm.sz] at hs
     exact ih z x b (hdp z hz) (h1 z hz) hb (by omega)
    ·rename_i hbd
     rw [if_neg hbd] at hs
     obtain ⟨g1, g2⟩ := xo hbd
     have hgd := zT g1
     have hpm := List.mem_of_getElem? hgd
     generalize hp : l.getD (ye k l.length).toNat tm0 = p at hs hgd hpm ⊢
     have parts : ∀ (v : Tm) (s : Nat), v.ok = true → zl ((l.map fun t => Tm.sub f t x b).set (ye k l.length).toNat v) ≤ 400 → ∀ y ∈ (l.map fun t => Tm.sub f t x b).set (ye k l.length).toNat v, y.ok = true := fun v s hv hs y hy => by
      have hsz := xk hy
      rcases List.mem_or_eq_of_mem_set hy with hy | rfl
      ·obtain ⟨z, hz, rfl⟩ := List.mem_map.1 hy
       exact ih z x b (hdp z hz) (h1 z hz) hb (by omega)
      ·exact hv
     split
     ·rename_i hc
      rw [if_pos hc] at hs
      simp only [Tm.sz] at hs
      exact Tm.ok_mk.2 ⟨parts _ 0 (h1 p hpm) (by omega), h2, by simpa using h3⟩
     ·rename_i hc
      rw [if_neg hc] at hs
      have hxb : x ∉ bdN k nm ot l.length := fun h => hc (.inl h)
      have hxp : x ∈ p.fv := Decidable.not_not.1 fun h => hc (.inr h)
      have hpV := zOa p (h1 p hpm)
      have hpd := hdp p hpm
      obtain ⟨n1, n2⟩ := zMq hbd h2
      have hleT := uY (wL f) k l.length b.fv x (bdN k nm ot l.length) (nm, ot, p)
      have hled := hleT.d
      have hlast := xk (List.mem_of_getElem? (List.getElem?_set_self (l := l.map fun t => Tm.sub f t x b) (i := (ye k l.length).toNat) (a := Tm.sub f (rns (Tm.sub f) k l.length b.fv x (bdN k nm ot l.length) (nm, ot, p)).2.2 x b) (by simpa using g1)))
      simp only [Tm.sz] at hs
      have hfx := zJ7 (f := f) k l.length b.fv x (bdN k nm ot l.length) (nm, ot, p) hxb hxp
      have hbs := zKQ f _ x b (Nat.le_trans hled hpd) hfx
      have hps := zDh f (rns (Tm.sub f) k l.length b.fv x (bdN k nm ot l.length) (nm, ot, p)).2.2 x b (hleT.v hpV)
      have hbf := Tm.fv_len b
      have hbv := Tm.vc_sz b
      have hfb : b.fv.length ≤ 400 := by omega
      -- one name
      have r1 : ∀ (old : ByteArray) (st : ByteArray × ByteArray × Tm), old ∈ bdN k st.1 st.2.1 l.length → st.2.2.ok = true → st.2.2.dp ≤ f → (rn1 (Tm.sub f) k l.length b.fv x old st).2.2.sz ≤ 400 → yf st.1 = true → (k = 9 → yf st.2.1 = true ∧ st.1 ≠ st.2.1) →
        (rn1 (Tm.sub f) k l.length b.fv x old st).2.2.ok = true ∧ yf (rn1 (Tm.sub f) k l.length b.fv x old st).1 = true ∧ (k = 9 → yf (rn1 (Tm.sub f) k l.length b.fv x old st).2.1 = true ∧ (rn1 (Tm.sub f) k l.length b.fv x old st).1 ≠ (rn1 (Tm.sub f) k l.length b.fv x old st).2.1) ∧ (k ≠ 9 → (rn1 (Tm.sub f) k l.length b.fv x old st).2.1 = st.2.1) := fun old st ho a1 a2 a3 a4 a5 => by
       have hfr := zBe (b.fv ++ (st.2.2.fv ++ ([x] ++ bdN k st.1 st.2.1 l.length)))
       unfold rn1 at a3 ⊢
       split
       ·rename_i hold
        rw [if_pos hold] at a3
        have hss : st.2.2.sz ≤ 400 := by
         split at a3
         ·exact Nat.le_trans (zDh f _ _ _ (zOa _ a1)) a3
         ·exact Nat.le_trans (zDh f _ _ _ (zOa _ a1)) a3
        have hsf := Tm.fv_len st.2.2
        have hsv := Tm.vc_sz st.2.2
        have hbn := tz k st.1 st.2.1 l.length
        have hnm := zGT (l := b.fv ++ (st.2.2.fv ++ ([x] ++ bdN k st.1 st.2.1 l.length))) (by simp only [List.length_append, List.length_cons, List.length_nil]; omega)
        generalize fresh (b.fv ++ (st.2.2.fv ++ ([x] ++ bdN k st.1 st.2.1 l.length))) = w at hfr hnm a3 ⊢
        have hw : w ∉ bdN k st.1 st.2.1 l.length := fun h => hfr (by simp [h])
        split
        ·rename_i hq
         rw [if_pos hq] at a3
         refine ⟨ih _ _ _ a2 a1 (zLK hnm) a3, hnm, fun h9 => ⟨(a5 h9).1, fun hcc => hw ?_⟩, fun _ => rfl⟩
         subst h9
         have h9 : l.length = 1 := by rcases w4 9 l.length with h | ⟨_, h, _⟩ | ⟨_, _, h⟩ <;> first | exact h | omega
         have hcc : w = st.2.1 := hcc
         rw [h9, hcc]; simp [bdN]
        ·rename_i hq
         rw [if_neg hq] at a3
         have h9 : k = 9 := by
          unfold bdN at ho
          (repeat' split at ho) <;> simp_all
         subst h9
         have hl1 : l.length = 1 := by rcases w4 9 l.length with h | ⟨_, h, _⟩ | ⟨_, _, h⟩ <;> first | exact h | omega
         refine ⟨ih _ _ _ a2 a1 (zLK hnm) a3, a4, fun _ => ⟨hnm, fun hcc => hw ?_⟩, fun h => absurd rfl h⟩
         have hcc : st.1 = w := hcc
         rw [hl1, ← hcc]; simp [bdN]
       ·exact ⟨a1, a4, a5, fun _ => rfl⟩
      have hstr : ∀ (os : List ByteArray) (st : ByteArray × ByteArray × Tm), st.2.2.V → (rns (Tm.sub f) k l.length b.fv x os st).2.2.sz ≤ 400 → st.2.2.sz ≤ 400 := fun os st hv h => Nat.le_trans (zK6 (fun t x y h => zDh f t x _ h) _ _ _ _ _ _ hv) h
      have fin : (rns (Tm.sub f) k l.length b.fv x (bdN k nm ot l.length) (nm, ot, p)).2.2.ok = true ∧ yf (rns (Tm.sub f) k l.length b.fv x (bdN k nm ot l.length) (nm, ot, p)).1 = true ∧
        (k = 9 → yf (rns (Tm.sub f) k l.length b.fv x (bdN k nm ot l.length) (nm, ot, p)).2.1 = true ∧ (rns (Tm.sub f) k l.length b.fv x (bdN k nm ot l.length) (nm, ot, p)).1 ≠ (rns (Tm.sub f) k l.length b.fv x (bdN k nm ot l.length) (nm, ot, p)).2.1) ∧
        (k ≠ 9 → (rns (Tm.sub f) k l.length b.fv x (bdN k nm ot l.length) (nm, ot, p)).2.1 = ot) := by
       have hall : (rns (Tm.sub f) k l.length b.fv x (bdN k nm ot l.length) (nm, ot, p)).2.2.sz ≤ 400 := by omega
       have hbc : bdN k nm ot l.length = [nm] ∨ (k = 9 ∧ l.length = 1 ∧ bdN k nm ot l.length = [nm, ot]) := by
        rcases w4 k l.length with h | ⟨_, h, h | h⟩ | ⟨_, h, h'⟩
        ·omega
        ·left; subst h; rw [show l.length = 1 from ‹_›]; simp [bdN]
        ·right; subst h; rw [show l.length = 1 from ‹_›]; simp [bdN]
        ·left; subst h'; rw [h]; simp [bdN]
       rcases hbc with e | ⟨hk9, hl1, e⟩
       ·rw [e] at hall ⊢
        simp only [rns] at hall ⊢
        exact r1 nm (nm, ot, p) (by rw [e]; simp) (h1 p hpm) hpd hall n1 n2
       ·rw [e] at hall ⊢
        simp only [rns] at hall ⊢
        have q1 := zH3 (wL f) k l.length b.fv x nm (nm, ot, p)
        have q2 := hstr [ot] _ (q1.v hpV) (by simpa only [rns] using hall)
        obtain ⟨b1, b2, b3, b4⟩ := r1 nm (nm, ot, p) (by rw [e]; simp) (h1 p hpm) hpd q2 n1 n2
        have q1d := q1.d
        have hm2 : ot ∈ bdN k (rn1 (Tm.sub f) k l.length b.fv x nm (nm, ot, p)).1 (rn1 (Tm.sub f) k l.length b.fv x nm (nm, ot, p)).2.1 l.length := by
         have : (rn1 (Tm.sub f) k l.length b.fv x nm (nm, ot, p)).2.1 = ot := by
          unfold rn1
          simp only [if_true]
          split <;> rfl
         rw [this, hk9, hl1]; simp [bdN]
        obtain ⟨d1, d2, d3, d4⟩ := r1 ot _ hm2 b1 (Nat.le_trans q1d hpd) hall b2 b3
        exact ⟨d1, d2, d3, fun h => absurd hk9 h⟩
      obtain ⟨fa, fb2, fc, fd⟩ := fin
      obtain ⟨u1, u2⟩ := zLS hbd h2 fb2 fc fd
      exact Tm.ok_mk.2 ⟨parts _ 0 (ih _ x b (Nat.le_trans hled hpd) fa hb (by omega)) (by omega), u1, by rw [u2]; simpa using h3⟩
theorem Tm.dp_mem {k : Int} {nm ot : ByteArray} {n : Int} {ty re : Ty} {l : List Tm} {y : Tm} (h : y ∈ l) : y.dp + 1 ≤ (Tm.mk k nm ot n ty re l).dp := by
 have := vu.1 (Nat.le_refl (pM l)) y h
 simp only [Tm.dp]; omega
theorem Tm.sz_mem {k : Int} {nm ot : ByteArray} {n : Int} {ty re : Ty} {l : List Tm} {y : Tm} (h : y ∈ l) : y.sz + 1 ≤ (Tm.mk k nm ot n ty re l).sz := by
 have := xk h
 simp only [Tm.sz]; omega
theorem zKt {e x : Tm} {i : Nat} (he : e.ok = true) (hx : x.ok = true) : (e.wth i x).ok = true := by
 cases e with
 | mk k nm ot n ty re l =>
 obtain ⟨h1, h2, h3⟩ := Tm.ok_mk.1 he
 refine Tm.ok_mk.2 ⟨fun y hy => ?_, h2, by simpa using h3⟩
 rcases List.mem_or_eq_of_mem_set hy with hy | rfl
 ·exact h1 y hy
 ·exact hx
theorem zLb {k : Int} {nm ot : ByteArray} {n : Int} {ty re : Ty} {l : List Tm} {i : Nat} {x : Tm} (h : i < l.length) : x.sz + 1 ≤ ((Tm.mk k nm ot n ty re l).wth i x).sz := by
 simp only [Tm.wth]
 exact Tm.sz_mem (List.mem_of_getElem? (List.getElem?_set_self h))
theorem zNi {e : Tm} {i : Nat} (he : e.ok = true) (hi : i < e.as.length) : (e.pt i).ok = true := by
 cases e with
 | mk k nm ot n ty re l => exact (Tm.ok_mk.1 he).1 _ (zI hi)
theorem zNt {k n : Int} (h : (k = 2 ∧ 0 ≤ n ∧ n ≤ 10006) ∨ (k = 3 ∧ 0 ≤ n ∧ n ≤ 1)) : (zJw k n).ok = true := by
 have hz : (Ty.mk 0 []).valid = false := by decide +kernel
 rcases h with ⟨rfl, h⟩ | ⟨rfl, h⟩
 ·refine Tm.ok_mk.2 ⟨by simp, ?_, rfl⟩
  simp [zJ, rC, hz, Ty.zero, Ty.k, Ty.as, inB, xf, h]
 ·refine Tm.ok_mk.2 ⟨by simp, ?_, rfl⟩
  simp [zJ, rC, hz, Ty.zero, Ty.k, Ty.as, inB, xf, h]
theorem zOx {x : Tm} (h : x.ok = true) : (Tm.nod 10 [x]).ok = true := by
 have hz : (Ty.mk 0 []).valid = false := by decide +kernel
 refine Tm.ok_mk.2 ⟨by simpa using h, ?_, rfl⟩
 simp [zJ, rC, hz, Ty.zero, Ty.k, Ty.as, inB, xf]
theorem zLt {e b : Tm} {x : ByteArray} (he : e.ok = true) (hb : b.ok = true) (h : (e.sb x b).sz ≤ 400) : (e.sb x b).ok = true := zNK _ e x b (Nat.le_refl _) he hb h
theorem zOj {e : Tm} (he : e.ok = true) (hs : e.apl.1.sz ≤ 400) : e.apl.1.ok = true := by
 cases e with
 | mk k nm ot n ty re l =>
 obtain ⟨h1, h2, h3⟩ := Tm.ok_mk.1 he
 obtain ⟨a1, a2, a3, a4, a5⟩ := xm he
 have g : ∀ i, i < l.length → (l.getD i tm0).ok = true := fun i hi => h1 _ (zI hi)
 simp only [Tm.apl] at hs ⊢
 split
 ·rename_i hk
  unfold Tm.opr
  split
  ·refine zNt ?_
   simp only [Tm.nm]
   have hin := zJF nm (l.getD 0 tm0).no (l.getD 1 tm0).no
   unfold zDO
   by_cases ho : zGs nm = true
   ·rw [if_pos ho]; exact .inl ⟨rfl, hin.1, hin.2⟩
   ·rw [if_neg ho]
    simp only [zGs, Bool.or_eq_true, decide_eq_true_eq, not_or] at ho
    have := zGQ ho.1 ho.2.1 ho.2.2 (l.getD 0 tm0).no (l.getD 1 tm0).no
    exact .inr ⟨rfl, this.1, this.2⟩
  ·exact he
 ·rename_i hk4
  rw [if_neg hk4] at hs
  split
  ·rename_i hk
   split
   ·rename_i hb
    have := zHR (g 0 (by have := a3 hk; omega)) hb
    refine g _ ?_
    have := a3 hk
    omega
   ·exact he
  ·rename_i hk5
   rw [if_neg hk5] at hs
   split
   ·rename_i hk
    rw [if_pos hk] at hs
    have hl := a2 (.inl hk)
    have q0 := g 0 (by omega)
    have q1 := g 1 (by omega)
    generalize l.getD 0 tm0 = p at hs q0 ⊢
    generalize l.getD 1 tm0 = q at hs q1 ⊢
    have hp : (p.kd = 6 ∨ p.kd = 9) → (p.pt 0).ok = true := fun h => by
     refine zNi q0 ?_
     cases p with
     | mk pk pn po pm pt pr pl =>
     have := (xm q0).1 (by simp only [Tm.kd] at h; omega)
     simp only [Tm.as]; omega
    split
    ·rename_i h6
     rw [if_pos h6] at hs
     exact zLt (hp (.inl h6)) q1 hs
    ·rename_i h6
     rw [if_neg h6] at hs
     split
     ·rename_i h9
      rw [if_pos h9] at hs
      have hV := zN7 (p.pt 0).dp (p.pt 0) p.nm p (zOa _ (hp (.inr h9))) (zOa _ q0)
      have hle := zDh ((p.pt 0).sb p.nm p).dp ((p.pt 0).sb p.nm p) p.ot q hV
      exact zLt (zLt (hp (.inr h9)) q0 (Nat.le_trans hle hs)) q1 hs
     ·exact he
   ·rename_i hk7
    rw [if_neg hk7] at hs
    split
    ·rename_i hk
     rw [if_pos hk] at hs
     have hl := a2 (.inr hk)
     exact zLt (g 1 (by omega)) (g 0 (by omega)) hs
    ·rename_i hk8
     split
     ·rename_i hk
      split
      ·rename_i h10
       have q0 := g 0 (by have := a1 (by omega); omega)
       refine zNi q0 ?_
       generalize l.getD 0 tm0 = p at q0 h10 ⊢
       cases p with
       | mk pk pn po pm pt pr pl =>
       have := (xm q0).1 (by simp only [Tm.kd] at h10; omega)
       simp only [Tm.as]; omega
      ·exact he
     ·split
      ·rename_i hk
       split
       ·exact zOx (g 0 (by have := a1 (by omega); omega))
       ·exact he
      ·exact he
/-- the splice's part, and what comes in its place -/
theorem zO0 {S : Tm → Tm × Int} {f : Nat} (hS : ∀ x : Tm, x.dp ≤ f → x.ok = true → (S x).1.sz ≤ 400 → (S x).1.ok = true) : ∀ (t : Tm) (m : Int), t.dp ≤ f + 1 → t.ok = true → (t.cod S m).1.sz ≤ 400 → (t.cod S m).1.ok = true := by
 refine Tm.ind fun k nm ot n ty re l ih m hd he hs => ?_
 obtain ⟨h1, h2, h3⟩ := Tm.ok_mk.1 he
 simp only [Tm.cod] at hs ⊢
 split
 ·rename_i hk
  rw [if_pos hk] at hs
  have hl := (xm he).1 (by omega)
  unfold zOC at hs ⊢
  have q0 : ((Tm.mk k nm ot n ty re l).pt 0).ok = true := h1 _ (zI (by omega))
  have d0 : ((Tm.mk k nm ot n ty re l).pt 0).dp ≤ f := by
   have := Tm.dp_mem (k := k) (nm := nm) (ot := ot) (n := n) (ty := ty) (re := re) (zI (l := l) (i := 0) (by omega))
   simp only [Tm.pt]; omega
  generalize hp : (Tm.mk k nm ot n ty re l).pt 0 = p at hs q0 d0 ⊢
  split
  ·split
   ·rename_i h10
    refine zNi q0 ?_
    cases p with
    | mk pk pn po pm pt pr pl =>
    have := (xm q0).1 (by simp only [Tm.kd] at h10; omega)
    simp only [Tm.as]; omega
   ·exact he
  ·rename_i hr
   rw [if_neg hr] at hs
   have := zLb (k := k) (nm := nm) (ot := ot) (n := n) (ty := ty) (re := re) (l := l) (i := 0) (x := (S p).1) (by omega)
   exact zKt he (hS p d0 q0 (by simp only at hs; omega))
 ·rename_i hk
  rw [if_neg hk] at hs
  have key : ∀ (xs : List Tm), (∀ x ∈ xs, x ∈ l) → ∀ l' r, zk S xs (yQ k m) = some (l', r) → zl l' ≤ 400 → l'.length = xs.length ∧ ∀ x ∈ l', x.ok = true := by
   intro xs
   induction xs with
   | nil => intro _ l' r h; simp [zk] at h
   | cons x xs ihx =>
     intro hm l' r h hs
     have hx := hm x (by simp)
     simp only [zk] at h
     split at h
     ·cases h
      simp only [zl] at hs
      refine ⟨by simp, fun y hy => ?_⟩
      rcases List.mem_cons.1 hy with rfl | hy
      ·have hdx := Tm.dp_mem (k := k) (nm := nm) (ot := ot) (n := n) (ty := ty) (re := re) hx
       exact ih x hx _ (by omega) (h1 x hx) (by omega)
      ·exact h1 y (hm y (by simp [hy]))
     ·split at h
      ·cases h
      ·rename_i l2 r2 h2
       cases h
       simp only [zl] at hs
       obtain ⟨b1, b2⟩ := ihx (fun y hy => hm y (by simp [hy])) _ _ h2 (by omega)
       refine ⟨by simp [b1], fun y hy => ?_⟩
       rcases List.mem_cons.1 hy with rfl | hy
       ·exact h1 y hx
       ·exact b2 y hy
  cases hc : zk S l (yQ k m) with
  | none => exact he
  | some p =>
    obtain ⟨l', r⟩ := p
    rw [hc] at hs
    simp only [Tm.sz] at hs
    obtain ⟨b1, b2⟩ := key l (fun x hx => hx) l' r hc (by omega)
    exact Tm.ok_mk.2 ⟨b2, h2, by rw [b1]; exact h3⟩
theorem zKu : ∀ (f : Nat) (e : Tm), e.dp ≤ f → e.ok = true → (e.stp f).1.sz ≤ 400 → (e.stp f).1.ok = true
 | 0, e, h, _, _ => absurd (Tm.dp_pos e) (by omega)
 | f + 1, .mk k nm ot n ty re l, hd, he, hs => by
   have ih := zKu f
   obtain ⟨h1, h2, h3⟩ := Tm.ok_mk.1 he
   simp only [Tm.stp] at hs ⊢
   split
   ·exact he
   ·rename_i hr
    rw [if_neg hr] at hs
    split
    ·rename_i hk
     rw [if_pos hk] at hs
     have hk : k = 10 := hk
     have hl := (xm he).1 (by omega)
     have hm := zI (l := l) (i := 0) (by omega)
     have hdm := Tm.dp_mem (k := k) (nm := nm) (ot := ot) (n := n) (ty := ty) (re := re) hm
     have := zLb (k := k) (nm := nm) (ot := ot) (n := n) (ty := ty) (re := re) (l := l) (i := 0) (x := (Tm.cod (Tm.stp f) ((Tm.mk k nm ot n ty re l).pt 0) 1).1) (by omega)
     exact zKt he (zO0 ih _ 1 (by simp only [Tm.pt]; omega) (h1 _ hm) (by simp only at hs; omega))
    ·rename_i hk
     rw [if_neg hk] at hs
     cases hg : goS (Tm.stp f) (Tm.mk k nm ot n ty re l) (l.take (rc k l.length)) 0 with
     | none =>
       rw [hg] at hs
       exact zOj he hs
     | some r =>
       rw [hg] at hs
       obtain ⟨j, x, g1, g2, rfl⟩ := zAw hg
       have hxm : l[j]? = some x := by
        rw [List.getElem?_take] at g1
        split at g1
        ·exact g1
        ·cases g1
       have hm := List.mem_of_getElem? hxm
       have hdm := Tm.dp_mem (k := k) (nm := nm) (ot := ot) (n := n) (ty := ty) (re := re) hm
       simp only [Nat.zero_add] at hs ⊢
       have := zLb (k := k) (nm := nm) (ot := ot) (n := n) (ty := ty) (re := re) (l := l) (i := j) (x := (Tm.stp f x).1) (List.getElem?_eq_some_iff.1 hxm).1
       exact zKt he (ih x (by omega) (h1 x hm) (by omega))
theorem zBT {g : Tm → Tm} {m : Nat} : ∀ {l : List Tm}, (∀ t ∈ l, (g t).sz ≤ t.sz * m) → zl (l.map g) ≤ zl l * m
 | [], _ => by simp [zl]
 | t :: l, h => by
   have h1 := zBT (l := l) fun x hx => h x (by simp [hx])
   have h2 := h t (by simp)
   simp only [List.map_cons, zl, Nat.add_mul]
   omega
theorem qu {g : Tm → Tm} {m : Nat} {v : Tm} : ∀ {l : List Tm} {j : Nat}, (∀ t ∈ l, (g t).sz ≤ t.sz * m) → (∀ t, l[j]? = some t → v.sz ≤ t.sz * m) → zl ((l.map g).set j v) ≤ zl l * m
 | [], _, _, _ => by simp [zl]
 | t :: l, 0, h, hv => by
   have h1 := zBT (l := l) fun x hx => h x (by simp [hx])
   have h2 := hv t rfl
   simp only [List.map_cons, List.set_cons_zero, zl, Nat.add_mul]
   omega
 | t :: l, j + 1, h, hv => by
   have h1 := qu (l := l) (j := j) (v := v) (fun x hx => h x (by simp [hx])) fun x hx => hv x (by simpa using hx)
   have h2 := h t (by simp)
   simp only [List.map_cons, List.set_cons_succ, zl, Nat.add_mul]
   omega
theorem zLl : ∀ (f : Nat) (t : Tm) (x : ByteArray) (b : Tm), (t.sub f x b).sz ≤ t.sz * (b.sz + 1)
 | 0, t, x, b => by simp only [Tm.sub]; exact Nat.le_mul_of_pos_right _ (by omega)
 | f + 1, .mk k nm ot n ty re l, x, b => by
   have ih := zLl f
   have one : ∀ m : Nat, m ≤ zl l * (b.sz + 1) → 1 + m ≤ (1 + zl l) * (b.sz + 1) := fun m h => by rw [Nat.add_mul]; omega
   simp only [Tm.sub]
   split
   ·split
    ·simp only [Tm.sz]; rw [Nat.add_mul]; omega
    ·exact Nat.le_mul_of_pos_right _ (by omega)
   ·split
    ·simp only [Tm.sz]
     exact one _ (zBT fun t _ => ih t x b)
    ·rename_i hbd
     obtain ⟨g1, g2⟩ := xo hbd
     split
     ·simp only [Tm.sz]
      refine one _ (qu (fun t _ => ih t x b) fun t ht => ?_)
      rw [zT g1] at ht
      rw [← Option.some.inj ht]
      exact Nat.le_mul_of_pos_right _ (by omega)
     ·simp only [Tm.sz]
      refine one _ (qu (fun t _ => ih t x b) fun t ht => ?_)
      rw [zT g1] at ht
      rw [← Option.some.inj ht]
      exact Nat.le_trans (ih _ x b) (Nat.mul_le_mul_right _ (uY (wL f) _ _ _ _ _ _).s)
theorem qc {x : Tm} : ∀ {l : List Tm} {i : Nat}, i < l.length → zl (l.set i x) + (l.getD i tm0).sz = zl l + x.sz
 | t :: l, 0, _ => by simp only [List.set_cons_zero, zl, List.getD_cons_zero]; omega
 | t :: l, i + 1, h => by
   have := qc (x := x) (l := l) (i := i) (by simpa using h)
   simp only [List.set_cons_succ, zl, List.getD_cons_succ]; omega
theorem zJj {e : Tm} {i : Nat} : (e.pt i).sz ≤ e.sz := by
 cases e with
 | mk k nm ot n ty re l =>
 simp only [Tm.pt]
 by_cases h : i < l.length
 ·have := Tm.sz_mem (k := k) (nm := nm) (ot := ot) (n := n) (ty := ty) (re := re) (zI h); omega
 ·rw [List.getD_eq_getElem?_getD, List.getElem?_eq_none (by omega)]
  simp only [Option.getD_none, tm0, Tm.sz, zl]; omega
theorem zOe (e : Tm) (h : e.sz ≤ 400) : e.apl.1.sz ≤ e.sz + 64481600 := by
 have big : ∀ (t b : Tm) (x : ByteArray) (m : Nat), t.sz ≤ m → b.sz ≤ 400 → (t.sb x b).sz ≤ m * 401 := fun t b x m h1 h2 =>
  Nat.le_trans (zLl _ t x b) (Nat.mul_le_mul h1 (by omega))
 cases e with
 | mk k nm ot n ty re l =>
 have g : ∀ i, (l.getD i tm0).sz ≤ 400 := fun i => Nat.le_trans (zJj (e := .mk k nm ot n ty re l)) h
 have gp : ∀ i j, ((l.getD i tm0).pt j).sz ≤ 400 := fun i j => Nat.le_trans zJj (g i)
 have g0 := g 0
 have g1 := g 1
 have gp0 := gp 0 0
 simp only [Tm.apl, Tm.opr]
 have k1 := big ((l.getD 0 tm0).pt 0) (l.getD 1 tm0) (l.getD 0 tm0).nm 400 gp0 g1
 have k2 := big ((l.getD 0 tm0).pt 0) (l.getD 0 tm0) (l.getD 0 tm0).nm 400 gp0 g0
 have k3 := big _ (l.getD 1 tm0) (l.getD 0 tm0).ot _ k2 g1
 have k4 := big (l.getD 1 tm0) (l.getD 0 tm0) nm 400 g1 g0
 have k5 := g (2 - (l.getD 0 tm0).no).toNat
 (repeat' split) <;> first | (simp only; omega) | (simp only [zJw, Tm.nod, Tm.sz, zl]; omega)
theorem zPN {S : Tm → Tm × Int} (hS : ∀ x : Tm, x.sz ≤ 400 → (S x).1.sz ≤ x.sz + 64481600) : ∀ (t : Tm) (m : Int), t.sz ≤ 400 → (t.cod S m).1.sz ≤ t.sz + 64481600 := by
 refine Tm.ind fun k nm ot n ty re l ih m hs => ?_
 simp only [Tm.cod]
 split
 ·unfold zOC
  split
  ·split
   ·have h1 := zJj (e := (Tm.mk k nm ot n ty re l).pt 0) (i := 0)
    have h2 := zJj (e := Tm.mk k nm ot n ty re l) (i := 0)
    simp only; omega
   ·simp only; omega
  ·have h2 := zJj (e := Tm.mk k nm ot n ty re l) (i := 0)
   have h3 := hS _ (Nat.le_trans h2 hs)
   simp only [Tm.wth, Tm.pt] at h3 ⊢
   by_cases h : 0 < l.length
   ·have := qc (x := (S (l.getD 0 tm0)).1) h
    simp only [Tm.sz] at hs ⊢
    omega
   ·rw [List.set_eq_of_length_le (by omega)]; omega
 ·have key : ∀ (xs : List Tm), (∀ x ∈ xs, x ∈ l) → ∀ l' r, zk S xs (yQ k m) = some (l', r) → zl l' ≤ zl xs + 64481600 := by
   intro xs
   induction xs with
   | nil => intro _ l' r h; simp [zk] at h
   | cons x xs ihx =>
     intro hm l' r h
     have hx := hm x (by simp)
     simp only [zk] at h
     split at h
     ·cases h
      have := ih x hx (yQ k m) (by have := Tm.sz_mem (k := k) (nm := nm) (ot := ot) (n := n) (ty := ty) (re := re) hx; omega)
      simp only [zl]; omega
     ·split at h
      ·cases h
      ·rename_i l2 r2 h2
       cases h
       have := ihx (fun y hy => hm y (by simp [hy])) _ _ h2
       simp only [zl]; omega
  cases hc : zk S l (yQ k m) with
  | none => simp only; omega
  | some p =>
    obtain ⟨l', r⟩ := p
    have := key l (fun x hx => hx) l' r hc
    simp only [Tm.sz]; omega
/-- a step of a small term is not great -/
theorem zM8 : ∀ (f : Nat) (e : Tm), e.sz ≤ 400 → (e.stp f).1.sz ≤ e.sz + 64481600
 | 0, e, _ => by simp only [Tm.stp]; omega
 | f + 1, .mk k nm ot n ty re l, hs => by
   have ih := zM8 f
   simp only [Tm.stp]
   split
   ·simp only; omega
   ·by_cases hk : (Tm.mk k nm ot n ty re l).kd = 10
    ·rw [if_pos hk]
     have h2 := zJj (e := Tm.mk k nm ot n ty re l) (i := 0)
     have h3 := zPN ih ((Tm.mk k nm ot n ty re l).pt 0) 1 (Nat.le_trans h2 hs)
     simp only [Tm.wth, Tm.pt] at h3 ⊢
     by_cases h : 0 < l.length
     ·have := qc (x := ((l.getD 0 tm0).cod (Tm.stp f) 1).1) h
      simp only [Tm.sz] at hs ⊢
      omega
     ·rw [List.set_eq_of_length_le (by omega)]; omega
    ·rw [if_neg hk]
     cases hg : goS (Tm.stp f) (Tm.mk k nm ot n ty re l) (l.take (rc k l.length)) 0 with
     | none => exact zOe _ hs
     | some r =>
       obtain ⟨j, x, g1, g2, rfl⟩ := zAw hg
       have hxm : l[j]? = some x := by
        rw [List.getElem?_take] at g1
        split at g1
        ·exact g1
        ·cases g1
       have hj := (List.getElem?_eq_some_iff.1 hxm).1
       have h3 := ih x (by have := Tm.sz_mem (k := k) (nm := nm) (ot := ot) (n := n) (ty := ty) (re := re) (List.mem_of_getElem? hxm); omega)
       have h4 := qc (x := (Tm.stp f x).1) hj
       have h5 : l.getD j tm0 = x := by rw [List.getD_eq_getElem?_getD, hxm]; rfl
       rw [h5] at h4
       simp only [Nat.zero_add, Tm.wth, Tm.sz] at hs ⊢
       omega
/-- a run of a term: how it ends, and the rules of its steps -/
def zL7 : Nat → Nat → Tm → (Int × Tm × Nat) × List Int
 | 0, n, x => if x.sz > 400 then ((3, tm0, n), []) else if x.res then ((1, x, n), []) else ((2, x, n), [])
 | m + 1, n, x => if x.sz > 400 then ((3, tm0, n), []) else if x.res then ((1, x, n), []) else if (x.stp x.dp).2 = 0 then ((4, x, n), [])
   else ((zL7 m (n + 1) (x.stp x.dp).1).1, (x.stp x.dp).2 :: (zL7 m (n + 1) (x.stp x.dp).1).2)
def rV (e : Tm) (fuel : Int) : Int × Tm × Nat := if (zBO e 0 && inB fuel 0 200) = true then (zL7 fuel.toNat 0 e).1 else (0, tm0, 0)
theorem zDa : ∀ (t : Tm) (d : D), t.Is d → t.sz ≤ 1073741824 → rW 49 [.dg 9 d] t.sz := by
 refine Tm.ind fun k nm ot n0 ty re l ih d hd hc N Q hQ => ?_
 obtain ⟨t0, t1, r0, r1, a, es, c, rfl, hh, hlen, hes⟩ := Tm.is_mk.1 hd
 simp only [Tm.sz] at hc
 refine zE9 N _ Q fun _ => ⟨_, _, _, rfl, ?_⟩
 refine up hes hlen (fun i xs => ∀ (m : Nat) (N' : Nat), N ≤ N' → m + zl xs = 1 + zl l → xt Q N m a es c es.length i N') ?_ ?_ 1 N (Nat.le_refl _) rfl
 ·intro i hlt _ m N' hN' hm
  refine tj _ _ _ _ _ _ _ _ _ ?_
  simp only [zl] at hm
  repeat' first|with_reducible intro _|simp only[hlt,Y1,Y2,Y3,Y4]|(with_reducible first|refine X1 ?_ ?_|refine X2 ?_ ?_|refine X3 ?_ ?_|refine X4 ?_ ?_|refine X5 ?_ ?_|refine X6 ?_ ?_|refine X7 ?_ ?_|refine X8 ?_ ?_|refine X9 ?_ ?_)|refine⟨_,_,_,rfl,?_⟩|refine⟨_,rfl,?_⟩|((with_reducible refine And.intro ?_ ?_);·first|omega|trivial|(show _=_;rfl)|((with_reducible refine And.intro ?_ ?_)<;>first|omega|trivial|(show _=_;rfl)))|fail
  exact Qi (hQ _ (by omega)) (by simp only [Tm.sz]; omega)
 ·intro i x xs hat _ ih2 m N' hN' hm
  have hb := hat.b
  have hxc := xk hat.m
  simp only [zl] at hm
  refine tj _ _ _ _ _ _ _ _ _ ?_
  rw [hat.lt, hat.w, Int.toNat_natCast]
  refine ⟨⟨by omega, by omega⟩, fun N1 hN1 => ih x hat.m _ hat.r (by omega) N1 _ fun N2 hN2 _ => ?_⟩
  rw [i64_in _ (by omega)]
  have := ih2 (m + x.sz) N2 (by omega) (by omega)
  simpa using this
theorem pY : ∀ (t : Tm) (d : D), t.Is d → t.sz ≤ 1073741824 → rW 48 [.dg 9 d] t.sz := by
 refine Tm.ind fun k nm ot n0 ty re l ih d hd hc N Q hQ => ?_
 obtain ⟨t0, t1, r0, r1, a, es, c, rfl, hh, hlen, hes⟩ := Tm.is_mk.1 hd
 simp only [Tm.sz] at hc
 refine zEs N _ Q fun _ => ?_
 refine up hes hlen (fun i xs => ∀ (m : Nat) (N' : Nat), N ≤ N' → m + zl xs = 1 + zl l → xy Q N m i (.ag [.lit (.int .i64 k), .lit (.string nm), .lit (.string ot), .lit (.int .i64 n0), t0, t1, r0, r1, .sl a 9 es c]) N') ?_ ?_ 1 N (Nat.le_refl _) rfl
 ·intro i hlt _ m N' hN' hm
  refine tX _ _ _ _ _ _ ⟨_, _, _, rfl, ?_⟩
  simp only [zl] at hm
  rw [hlt]
  exact fun N2 hN2 => Qi (hQ _ (by omega)) (by simp only [Tm.sz]; omega)
 ·intro i x xs hat _ ih2 m N' hN' hm
  have hb := hat.b
  have hxc := xk hat.m
  simp only [zl] at hm
  refine tX _ _ _ _ _ _ ⟨_, _, _, rfl, ?_⟩
  rw [hat.lt, hat.w, Int.toNat_natCast]
  refine ⟨_, _, _, rfl, ⟨by omega, by omega⟩, fun N1 hN1 => ih x hat.m _ hat.r (by omega) N1 _ fun N2 hN2 _ => ?_⟩
  rw [i64_in _ (by omega)]
  have := ih2 (m + x.sz) N2 (by omega) (by omega)
  simpa using this
/-- a term's types are small -/
theorem zNR : ∀ t : Tm, t.ok = true → t.cnt ≤ 61 * t.sz := by
 refine Tm.ind fun k nm ot n ty re l ih h => ?_
 obtain ⟨h1, h2, h3⟩ := Tm.ok_mk.1 h
 have z1 : ∀ t : Ty, t.zero = true → t.cnt ≤ 30 := fun t ht => by
  cases t with
  | mk k l =>
  simp only [Ty.zero, Ty.k, Ty.as, Bool.and_eq_true, beq_iff_eq] at ht
  have : l = [] := List.eq_nil_of_length_eq_zero (by omega)
  subst this
  simp [Ty.cnt, zG]
 have v1 : ∀ t : Ty, t.valid = true → t.cnt ≤ 30 := fun t ht => by
  simp only [Ty.valid, Bool.and_eq_true, decide_eq_true_eq] at ht
  exact ht.1.1
 simp only [zJ, Bool.and_eq_true, beq_iff_eq, Bool.or_eq_true] at h2
 have hty : ty.cnt ≤ 30 := by
  rcases h2.2.1 with h | h
  ·exact v1 _ (by rw [← h2.1, h])
  ·exact z1 _ h
 have hre : re.cnt ≤ 30 := by
  rcases h2.2.2.2.1 with h | h
  ·exact v1 _ (by rw [← h2.2.2.1]; simpa using h)
  ·exact z1 _ h
 have key : ∀ xs : List Tm, (∀ x ∈ xs, x ∈ l) → zY xs ≤ 61 * zl xs := by
  intro xs
  induction xs with
  | nil => intro _; exact Nat.le_refl _
  | cons x xs ihx =>
    intro hm
    have a1 := ih x (hm x (by simp)) (h1 x (hm x (by simp)))
    have a2 := ihx fun y hy => hm y (by simp [hy])
    simp only [zY, zl]; omega
 have := key l fun x hx => hx
 simp only [Tm.cnt, Tm.sz]; omega
/-- a term that is reached by steps -/
structure Rch (x : Tm) : Prop where
 g : x.G
 s : x.sz ≤ 64482000
 o : x.sz ≤ 400 → x.ok = true
theorem Rch.F {x : Tm} (h : Rch x) (hs : x.sz ≤ 400) : x.F x.dp := ⟨h.o hs, Nat.le_refl _, by have := zNR x (h.o hs); omega⟩
theorem Rch.step {x : Tm} (h : Rch x) (hs : x.sz ≤ 400) : Rch (x.stp x.dp).1 := ⟨zOn _ _ h.g, by have := zM8 x.dp x hs; omega, fun h2 => zKu _ x (Nat.le_refl _) (h.o hs) h2⟩
theorem Rch.of {e : Tm} (h1 : e.ok = true) (h2 : e.cnt ≤ 4000000) : Rch e := ⟨Tm.G_cnt e (by omega), by have := Tm.sz_cnt e; omega, fun _ => h1⟩
/-- how a run ends, as data -/
def zJv (r : Int × Tm × Nat) (d : D) : Prop := ∃ cs, d = .ag (.lit (.int .i64 r.1) :: (cs ++ [.lit (.int .i64 (r.2.2 : Nat))])) ∧ r.2.1.Is (.ag cs)
theorem pz (m n : Nat) (x : Tm) : zL7 m n x = if x.sz > 400 then ((3, tm0, n), []) else if x.res then ((1, x, n), []) else match m with
  | 0 => ((2, x, n), [])
  | m + 1 => if (x.stp x.dp).2 = 0 then ((4, x, n), []) else ((zL7 m (n + 1) (x.stp x.dp).1).1, (x.stp x.dp).2 :: (zL7 m (n + 1) (x.stp x.dp).1).2) := by
 cases m <;> rfl
theorem zBm {s : Int} {k n0 : Int} {nm ot : ByteArray} {ty re : Ty} {l : List Tm} {n : Nat} {y0 y1 y2 y3 y4 y5 y6 y7 y8 : D} (h : (Tm.mk k nm ot n0 ty re l).Is (.ag [y0, y1, y2, y3, y4, y5, y6, y7, y8])) :
 zJv (s, Tm.mk k nm ot n0 ty re l, n) (.ag [.lit (.int .i64 s), y0, y1, y2, y3, y4, y5, y6, y7, y8, .lit (.int .i64 (n : Nat))]) := ⟨_, rfl, h⟩
theorem zMS {s : Int} {n : Nat} : zJv (s, tm0, n) (.ag [.lit (.int .i64 s), .lit (.int .i64 0), .lit (.string (bytes [])), .lit (.string (bytes [])), .lit (.int .i64 0), .lit (.int .i64 0), .sl none 2 [] 0, .lit (.int .i64 0), .sl none 2 [] 0, .sl none 9 [] 0, .lit (.int .i64 (n : Nat))]) := ⟨_, rfl, zGr⟩
theorem Fresh.mono {N0 N1 N M : Nat} {a : Option Addr} {ds : List D} (h : Fresh N0 N a ds) (h1 : N1 ≤ N0) (h2 : N ≤ M) : Fresh N1 M a ds :=
 ⟨fun ad h' => Nat.le_trans h1 (h.lo ad h'), fun ad h' => Nat.lt_of_lt_of_le (h.hi ad h') h2, h.off, h.ap⟩
theorem zI1 {N N' : Nat} {s t : Value} {cs : List D} (h : Own N N' (.ag cs)) : Own N N' (.ag (.lit s :: (cs ++ [.lit t]))) := by
 have e : zA (.lit s :: (cs ++ [.lit t])) = zA cs := by simp only [zA, D.foot, zC, List.nil_append, List.append_nil]
 refine ⟨?_, ⟨trivial, yI h.fl ⟨trivial, trivial⟩⟩, fun b hb => ?_, fun b hb => ?_⟩
 ·have := h.nd; simp only [D.foot] at this ⊢; rw [e]; exact this
 ·simp only [D.foot] at hb; rw [e] at hb; exact h.lo b (by simpa only [D.foot] using hb)
 ·simp only [D.foot] at hb; rw [e] at hb; exact h.hi b (by simpa only [D.foot] using hb)
theorem zFa {N N' : Nat} {s : Value} {t : Value} : Own N N' (.ag [.lit s, .lit (.int .i64 0), .lit (.string (bytes [])), .lit (.string (bytes [])), .lit (.int .i64 0), .lit (.int .i64 0), .sl none 2 [] 0, .lit (.int .i64 0), .sl none 2 [] 0, .sl none 9 [] 0, .lit t]) :=
 ⟨by simp [D.foot, zA], by simp [D.Flat0, yr], by simp [D.foot, zA], by simp [D.foot, zA]⟩
theorem zCp {e : Tm} {d : D} (he : e.Is d) (hc : e.cnt ≤ 4000000) (fu : Int) (N : Nat) (Q : QT [.ag 11]) (hQ : ∀ d N', N ≤ N' → zJv (rV e fu) d → Q d N') : ACalls prog 23 [.ag 11] [.dg 9 d, .int .i64 fu] N Q := by
 have hG := Tm.G_cnt e (by omega)
 unfold rV at hQ
 refine zDI N _ fu Q fun _ N1 hN1 => zBX e d he (by omega) 0 N1 _ fun N2 hN2 _ => Br.not (fun hv N3 hN3 => ?_) fun hv N4 hN4 => xd _ _ _ N4 _ fun N5 hN5 _ => Br.not (fun hb N6 hN6 => ?_) fun hb N7 hN7 => ?_
 ·rw [if_neg (by rw [hv]; simp)] at hQ
  exact hQ _ _ (by omega) zMS
 ·rw [if_neg (by rw [hv, hb]; decide)] at hQ
  exact hQ _ _ (by omega) zMS
 rw [if_pos (by rw [hv, hb]; rfl)] at hQ
 have hbi := xg.1 hb
 have hok : e.ok = true := by unfold zBO at hv; simp at hv; exact hv.1
 have hR := Rch.of hok hc
 refine tv e d he hG N7 _ ?_
 obtain ⟨F, rfl⟩ : ∃ F : Nat, fu = (F : Int) := ⟨fu.toNat, by omega⟩
 rw [Int.toNat_natCast] at hQ
 have rest : ∀ (m n : Nat) (x : Tm) (dx : D) (N' : Nat), N ≤ N' → n + m = F → Rch x → x.Is dx → (∀ d N', N ≤ N' → zJv (zL7 m n x).1 d → Q d N') → yg Q N (F : Nat) n 0 0 (bytes []) (bytes []) 0 0 none [] 0 0 none [] 0 none [] 0 0 dx N' := by
  intro m
  induction m with
  | zero =>
    intro n x dx N' hN' hn hx hdx hq
    rw [pz] at hq
    have hxs := hx.s
    refine w9 _ _ _ _ _ _ _ _ _ _ _ _ _ _ _ _ _ _ _ _ _ _ _ fun N1 hN1 => pY x dx hdx (by omega) N1 _ fun N2 hN2 _ => Br.dec (fun h4 N3 hN3 => ?_) fun h4 N4 hN4 => ?_
    ·rw [if_pos (by omega)] at hq; exact hq _ _ (by omega) zMS
    ·rw [if_neg (by omega)] at hq
     have hF := hx.F (by omega)
     refine zW hdx hF.ok hF.dp N4 _ fun N5 hN5 _ => Br.of (fun hr N6 hN6 => ?_) fun hr => Br.beq (fun _ N7 hN7 => ?_) fun hne => absurd (by omega) hne
     ·rw [if_pos hr] at hq
      cases x with
      | mk k nm ot n0 ty re l =>
      obtain ⟨t0, t1, r0, r1, a, es, c, rfl, hh, hlen, hes⟩ := Tm.is_mk.1 hdx
      exact hq _ _ (by omega) (zBm hdx)
     ·rw [if_neg (by rw [hr]; decide)] at hq
      cases x with
      | mk k nm ot n0 ty re l =>
      obtain ⟨t0, t1, r0, r1, a, es, c, rfl, hh, hlen, hes⟩ := Tm.is_mk.1 hdx
      exact hq _ _ (by omega) (zBm hdx)
  | succ m ih =>
    intro n x dx N' hN' hn hx hdx hq
    rw [pz] at hq
    have hxs := hx.s
    refine w9 _ _ _ _ _ _ _ _ _ _ _ _ _ _ _ _ _ _ _ _ _ _ _ fun N1 hN1 => pY x dx hdx (by omega) N1 _ fun N2 hN2 _ => Br.dec (fun h4 N3 hN3 => ?_) fun h4 N4 hN4 => ?_
    ·rw [if_pos (by omega)] at hq; exact hq _ _ (by omega) zMS
    ·rw [if_neg (by omega)] at hq
     have hF := hx.F (by omega)
     refine zW hdx hF.ok hF.dp N4 _ fun N5 hN5 _ => Br.of (fun hr N6 hN6 => ?_) fun hr => Br.beq (fun hne => absurd hne (by omega)) fun _ N8 hN8 => ?_
     ·rw [if_pos hr] at hq
      cases x with
      | mk k nm ot n0 ty re l =>
      obtain ⟨t0, t1, r0, r1, a, es, c, rfl, hh, hlen, hes⟩ := Tm.is_mk.1 hdx
      exact hq _ _ (by omega) (zBm hdx)
     ·rw [if_neg (by rw [hr]; decide)] at hq
      refine zBg _ _ _ hdx hF N8 _ fun dy N9 hN9 hy _ _ => Br.beq (fun h0 N10 hN10 => ?_) fun h0 => ?_
      ·simp only at hq
       rw [if_pos h0] at hq
       cases x with
       | mk k nm ot n0 ty re l =>
       obtain ⟨t0, t1, r0, r1, a, es, c, rfl, hh, hlen, hes⟩ := Tm.is_mk.1 hdx
       exact hq _ _ (by omega) (zBm hdx)
      ·simp only at hq
       rw [if_neg h0] at hq
       rw [i64_in _ (by omega)]
       have := ih (n + 1) _ dy N9 (by omega) (by omega) (hx.step (by omega)) hy hq
       simpa using this
 cases e with
 | mk k nm ot n0 ty re l =>
 intro x4 x5 x6 x7 es' c' N8 hN8 hh' hes' ho' _ _
 have hl' := hes'.len
 have hgl := hG.2.2.1
 have hxs := hR.s
 refine zAr _ _ _ _ _ _ _ _ _ _ _ _ _ _ _ _ _ _ _ _ _ _ _ _ _ _ _ _ _ _ _ _ _ _ ⟨⟨rfl, rfl⟩, ⟨rfl, rfl⟩, fun a1 N9 hN9 _ N10 hN10 => ?_⟩
 have hdx : (Tm.mk k nm ot n0 ty re l).Is (.ag [.lit (.int .i64 k), .lit (.string nm), .lit (.string ot), .lit (.int .i64 n0), x4, x5, x6, x7, .sl a1 9 es' c']) := Tm.is_mk.2 ⟨_, _, _, _, _, _, _, rfl, hh', by omega, hes'⟩
 rw [pz] at hQ
 refine pY _ _ hdx (by omega) N10 _ fun N11 hN11 _ => Br.dec (fun h4 N3 hN3 => ?_) fun h4 N12 hN12 => ?_
 ·rw [if_pos (by omega)] at hQ; exact hQ _ _ (by omega) zMS
 rw [if_neg (by omega)] at hQ
 have hF := hR.F (by omega)
 refine zW hdx hF.ok hF.dp N12 _ fun N13 hN13 _ => Br.of (fun hr N6 hN6 => ?_) fun hr => Br.beq (fun h0 N7 hN7 => ?_) fun hne N14 hN14 => ?_
 ·rw [if_pos hr] at hQ; exact hQ _ _ (by omega) (zBm hdx)
 ·rw [if_neg (by rw [hr]; decide)] at hQ
  have : F = 0 := by omega
  subst this
  exact hQ _ _ (by omega) (zBm hdx)
 ·rw [if_neg (by rw [hr]; decide)] at hQ
  obtain ⟨m, rfl⟩ : ∃ m, F = m + 1 := ⟨F - 1, by omega⟩
  simp only at hQ
  refine zBg _ _ _ hdx hF N14 _ fun dy N15 hN15 hy _ _ => Br.beq (fun h0 N16 hN16 => ?_) fun h0 => ?_
  ·rw [if_pos h0] at hQ; exact hQ _ _ (by omega) (zBm hdx)
  ·rw [if_neg h0] at hQ
   rw [i64_in _ (by omega)]
   exact rest m 1 _ dy N15 (by omega) (by omega) (hR.step (by omega)) hy hQ
theorem zDV {e : Tm} {d : D} (he : e.Is d) (hc : e.cnt ≤ 4000000) (fu : Int) (N : Nat) (Q : QT [.ag 11]) (hQ : ∀ d N', N ≤ N' → zJv (rV e fu) d → Own N N' d → Q d N') : ACalls prog 24 [.ag 11] [.dg 9 d, .int .i64 fu] N Q := by
 have hG := Tm.G_cnt e (by omega)
 unfold rV at hQ
 refine zC1 N _ fu Q fun _ M1 hM1 => px M1 _ fu _ fun _ N1 hN1 => sM e d he (by omega) 0 N1 _ fun N2 hN2 _ => Br.not (fun hv N3 hN3 => ?_) fun hv N4 hN4 => yi _ _ _ N4 _ fun N5 hN5 _ => Br.not (fun hb N6 hN6 => ?_) fun hb N7 hN7 => ?_
 ·rw [if_neg (by rw [hv]; simp)] at hQ
  exact fun _ _ M3 hM3 => hQ _ _ (by omega) zMS zFa
 ·rw [if_neg (by rw [hv, hb]; decide)] at hQ
  exact fun _ _ M3 hM3 => hQ _ _ (by omega) zMS zFa
 rw [if_pos (by rw [hv, hb]; rfl)] at hQ
 have hbi := xg.1 hb
 have hok : e.ok = true := by unfold zBO at hv; simp at hv; exact hv.1
 have hR := Rch.of hok hc
 refine sN e d he hG N7 _ ?_
 obtain ⟨F, rfl⟩ : ∃ F : Nat, fu = (F : Int) := ⟨fu.toNat, by omega⟩
 rw [Int.toNat_natCast] at hQ
 have rest : ∀ (m n : Nat) (k n0 : Int) (nm ot : ByteArray) (ty re : Ty) (l : List Tm) (y4 y5 y6 y7 : D) (r : List D) (q N' : Nat), M1 ≤ N' → n + m = F → Rch (.mk k nm ot n0 ty re l) → Tm.Hd nm ot ty re y4 y5 y6 y7 → All2 Tm.Is l r → OwnL N N' ([y4, y5, y6, y7] ++ r) → (∀ d N', N ≤ N' → zJv (zL7 m n (.mk k nm ot n0 ty re l)).1 d → Own N N' d → Q d N') →
   xQ (fun x N2 => M1 ≤ N2 → Bel N2 x → ∀ N3, N2 ≤ N3 → Q x N3) M1 (F : Nat) n 0 0 (bytes []) (bytes []) 0 0 none [] 0 0 none [] 0 none [] 0 0 k nm ot n0 y4 y5 y6 y7 r.length q r q N' := by
  intro m
  induction m with
  | zero =>
    intro n k n0 nm ot ty re l y4 y5 y6 y7 r q N' hN' hn hx hH hA hO hq
    have hrl := hA.len
    have hgl := hx.g.2.2.1
    have hxs := hx.s
    rw [pz] at hq
    refine tD _ _ _ _ _ _ _ _ _ _ _ _ _ _ _ _ _ _ _ _ _ _ _ _ _ _ _ _ _ _ _ _ _ _ ⟨⟨rfl, rfl⟩, ⟨rfl, rfl⟩, fun a2 N5 hN5 hf0 N6 hN6 => ?_⟩
    have hf := hf0.mono hM1 (Nat.le_refl _)
    have hdx : (Tm.mk k nm ot n0 ty re l).Is (.ag [.lit (.int .i64 k), .lit (.string nm), .lit (.string ot), .lit (.int .i64 n0), y4, y5, y6, y7, .sl a2 9 r q]) := Tm.is_mk.2 ⟨_, _, _, _, _, _, _, rfl, hH, by omega, hA⟩
    have hown := wu (v0 := .int .i64 k) (v1 := .string nm) (v2 := .string ot) (v3 := .int .i64 n0) (c := q) hO hf hN5
    refine zDa _ _ hdx (by omega) N6 _ fun N7 hN7 _ => Br.dec (fun h4 N8 hN8 => ?_) fun h4 N8 hN8 => ?_
    ·rw [if_pos (by omega)] at hq; exact fun _ _ M3 hM3 => hq _ _ (by omega) zMS zFa
    rw [if_neg (by omega)] at hq
    have hF := hx.F (by omega)
    have hFc := hF.c
    refine wz hdx hF.ok (by omega) N8 _ fun N9 hN9 _ => Br.of (fun hr N10 hN10 => ?_) fun hr => Br.beq (fun _ N11 hN11 => ?_) fun hne => absurd (by omega) hne
    ·rw [if_pos hr] at hq
     exact fun _ _ M3 hM3 => hq _ _ (by omega) (zBm hdx) (zI1 (cs := [_, _, _, _, _, _, _, _, _]) (hown.mono (Nat.le_refl _) (by omega)))
    ·rw [if_neg (by rw [hr]; decide)] at hq
     exact fun _ _ M3 hM3 => hq _ _ (by omega) (zBm hdx) (zI1 (cs := [_, _, _, _, _, _, _, _, _]) (hown.mono (Nat.le_refl _) (by omega)))
  | succ m ih =>
    intro n k n0 nm ot ty re l y4 y5 y6 y7 r q N' hN' hn hx hH hA hO hq
    have hrl := hA.len
    have hgl := hx.g.2.2.1
    have hxs := hx.s
    rw [pz] at hq
    refine tD _ _ _ _ _ _ _ _ _ _ _ _ _ _ _ _ _ _ _ _ _ _ _ _ _ _ _ _ _ _ _ _ _ _ ⟨⟨rfl, rfl⟩, ⟨rfl, rfl⟩, fun a2 N5 hN5 hf0 N6 hN6 => ?_⟩
    have hf := hf0.mono hM1 (Nat.le_refl _)
    have hdx : (Tm.mk k nm ot n0 ty re l).Is (.ag [.lit (.int .i64 k), .lit (.string nm), .lit (.string ot), .lit (.int .i64 n0), y4, y5, y6, y7, .sl a2 9 r q]) := Tm.is_mk.2 ⟨_, _, _, _, _, _, _, rfl, hH, by omega, hA⟩
    have hown := wu (v0 := .int .i64 k) (v1 := .string nm) (v2 := .string ot) (v3 := .int .i64 n0) (c := q) hO hf hN5
    refine zDa _ _ hdx (by omega) N6 _ fun N7 hN7 _ => Br.dec (fun h4 N8 hN8 => ?_) fun h4 N8 hN8 => ?_
    ·rw [if_pos (by omega)] at hq; exact fun _ _ M3 hM3 => hq _ _ (by omega) zMS zFa
    rw [if_neg (by omega)] at hq
    have hF := hx.F (by omega)
    have hFc := hF.c
    refine wz hdx hF.ok (by omega) N8 _ fun N9 hN9 _ => Br.of (fun hr N10 hN10 => ?_) fun hr => Br.beq (fun hne => absurd hne (by omega)) fun _ N11 hN11 => ?_
    ·rw [if_pos hr] at hq
     exact fun _ _ M3 hM3 => hq _ _ (by omega) (zBm hdx) (zI1 (cs := [_, _, _, _, _, _, _, _, _]) (hown.mono (Nat.le_refl _) (by omega)))
    ·rw [if_neg (by rw [hr]; decide)] at hq
     simp only at hq
     refine zD7 _ _ _ hdx hF N11 _ fun dy N12 hN12 hy _ _ => Br.beq (fun h0 N13 hN13 => ?_) fun h0 N13 hN13 => zAp N13 _ _ fun N14 hN14 _ N15 hN15 => ?_
     ·rw [if_pos h0] at hq
      exact fun _ _ M3 hM3 => hq _ _ (by omega) (zBm hdx) (zI1 (cs := [_, _, _, _, _, _, _, _, _]) (hown.mono (Nat.le_refl _) (by omega)))
     ·rw [if_neg h0] at hq
      have hx2 := hx.step (by omega)
      refine sN _ _ hy hx2.g N15 _ ?_
      generalize ((Tm.mk k nm ot n0 ty re l).stp (Tm.mk k nm ot n0 ty re l).dp).1 = z at hy hx2 hq
      cases z with
      | mk k2 nm2 ot2 n2 ty2 re2 l2 =>
      intro z4 z5 z6 z7 es2 c2 N16 hN16 hh2 hes2 ho2 _ _
      rw [i64_in _ (by omega)]
      have := ih (n + 1) k2 n2 nm2 ot2 ty2 re2 l2 z4 z5 z6 z7 es2 c2 N16 (by omega) (by omega) hx2 hh2 hes2 (ho2.mono (by omega) (Nat.le_refl _)) hq
      simpa using this
 cases e with
 | mk k nm ot n0 ty re l =>
 intro x4 x5 x6 x7 es' c' N8 hN8 hh' hes' ho' _ _
 exact rest F 0 k n0 nm ot ty re l x4 x5 x6 x7 es' c' N8 (by omega) (by omega) hR hh' hes' (ho'.mono (by omega) (Nat.le_refl _)) hQ
end Go.Proofs.YtnpjpplbkoammaaGreatDoor
