/- Substitution and steps: sizes, and that terms stay terms (no program in sight). -/
import Derived.Test.YtnpjpplbkoammaaGreatDoorYa
import Derived.Test.YtnpjpplbkoammaaGreatDoorYe
import Derived.Test.YtnpjpplbkoammaaGreatDoorKi
import Derived.Test.YtnpjpplbkoammaaGreatDoorKh
set_option linter.unusedVariables false
set_option linter.unusedSimpArgs false
namespace Go.Proofs.YtnpjpplbkoammaaGreatDoor
open Go Go.Proofs Go.Proofs.Tryz Go.IntWalk
theorem xm : ∀ {l : List Tm} {t : Tm}, t ∈ l → t.sz ≤ zm l
 | u :: us, t, h => by
   simp only [zm]
   rcases List.mem_cons.1 h with rfl | h
   ·omega
   ·have := xm h; omega
theorem Tm.sz_pos (t : Tm) : 1 ≤ t.sz := by cases t; simp only [Tm.sz]; omega
theorem zGk : ∀ {l : List Tm}, uZ l = true ↔ ∀ x ∈ l, x.ok = true
 | [] => by simp [uZ]
 | t :: ts => by simp only [uZ, Bool.and_eq_true, zGk (l := ts), List.mem_cons, forall_eq_or_imp]
theorem szL : ∀ {l' l : List Tm}, l'.length = l.length → (∀ (i : Nat) (t' t : Tm), l'[i]? = some t' → l[i]? = some t → t.sz ≤ t'.sz) → zm l ≤ zm l'
 | [], [], _, _ => Nat.le_refl _
 | [], _ :: _, h, _ => by simp at h
 | _ :: _, [], h, _ => by simp at h
 | t' :: ts', t :: ts, h, hr => by
   have h1 := szL (l' := ts') (l := ts) (by simpa using h) fun i a b ha hb => hr (i + 1) a b (by simpa using ha) (by simpa using hb)
   have h0 := hr 0 t' t (by simp) (by simp)
   simp only [zm]; omega
theorem zKC {f : Nat} (hS : ∀ t x y, t.V → t.sz ≤ (Tm.sub f t x (pV y)).sz) (k : Int) (n : Nat) (fb : List ByteArray) (x : ByteArray) : ∀ (l : List ByteArray) (s : ByteArray × ByteArray × Tm), s.2.2.V → s.2.2.sz ≤ (rns (Tm.sub f) k n fb x l s).2.2.sz
 | [], s, _ => Nat.le_refl _
 | old :: l, s, hv => by
   have h1 := zKC hS k n fb x l (rn1 (Tm.sub f) k n fb x old s) ((zHw (wR f) k n fb x old s).v hv)
   have h2 : s.2.2.sz ≤ (rn1 (Tm.sub f) k n fb x old s).2.2.sz := by
    unfold rn1
    split
    ·split <;> exact hS _ _ _ hv
    ·exact Nat.le_refl _
   simp only [rns]; omega
theorem zD8 : ∀ (f : Nat) (t : Tm) (x : ByteArray) (b : Tm), t.V → t.sz ≤ (t.sub f x b).sz
 | 0, t, x, b, _ => by simp only [Tm.sub]; exact Nat.le_refl _
 | f + 1, .mk k nm ot n ty re l, x, b, hv => by
   have ih := zD8 f
   have hvm := v7.1 hv.2
   simp only [Tm.sub]
   split
   ·rename_i hk
    split
    ·rw [hv.1 (by assumption)]
     simp only [Tm.sz, zm]; exact Tm.sz_pos b
    ·exact Nat.le_refl _
   ·split
    ·simp only [Tm.sz]
     have := szL (l' := l.map fun t => Tm.sub f t x b) (l := l) (by simp) fun i t' t ht' ht => by
      rw [List.getElem?_map, ht] at ht'
      cases ht'
      exact ih t x b (hvm t (List.mem_of_getElem? ht))
     omega
    ·rename_i hb
     obtain ⟨g1, g2⟩ := xz hb
     split
     ·simp only [Tm.sz]
      have := szL (l' := (l.map fun t => Tm.sub f t x b).set (ye k l.length).toNat (l.getD (ye k l.length).toNat tm0)) (l := l) (by simp) fun i t' t ht' ht => by
       rcases zFP ht' ht with ⟨h1, h2⟩ | ⟨h1, h2⟩
       ·rw [h1, zT g1] at ht
        rw [h2, ← Option.some.inj ht]
        exact Nat.le_refl _
       ·rw [h2]; exact ih t x b (hvm t (List.mem_of_getElem? ht))
      omega
     ·simp only [Tm.sz]
      have := szL (l' := (l.map fun t => Tm.sub f t x b).set (ye k l.length).toNat (Tm.sub f (rns (Tm.sub f) k l.length b.fv x (bdN k nm ot l.length) (nm, ot, l.getD (ye k l.length).toNat tm0)).2.2 x b)) (l := l) (by simp) fun i t' t ht' ht => by
       rcases zFP ht' ht with ⟨h1, h2⟩ | ⟨h1, h2⟩
       ·rw [h1, zT g1] at ht
        rw [h2, ← Option.some.inj ht]
        have hpv := hvm _ (List.mem_of_getElem? (zT g1))
        exact Nat.le_trans (zKC (fun t x y h => ih t x _ h) k l.length b.fv x (bdN k nm ot l.length) (nm, ot, l.getD (ye k l.length).toNat tm0) hpv) (ih _ x b ((uu (wR f) _ _ _ _ _ _).v hpv))
       ·rw [h2]; exact ih t x b (hvm t (List.mem_of_getElem? ht))
      omega
theorem zOD {k : Int} {s w ot : ByteArray} {n : Nat} (v : ByteArray) (h : s ∈ bdN k w ot n) : s = w ∨ s ∈ bdN k v ot n := by
 unfold bdN at h ⊢
 split at h
 ·simp at h; exact .inl h
 ·rename_i h6
  rw [if_neg h6]
  split at h
  ·simp at h; exact .inl h
  ·rename_i h8
   rw [if_neg h8]
   split at h
   ·rename_i h9
    rw [if_pos h9]
    simp at h
    rcases h with h | h
    ·exact .inl h
    ·exact .inr (by simp [h])
   ·simp at h
theorem zNz {k : Int} {s nm w : ByteArray} {n : Nat} (v : ByteArray) (h : s ∈ bdN k nm w n) : s = w ∨ s ∈ bdN k nm v n := by
 unfold bdN at h ⊢
 split at h
 ·rename_i h6
  rw [if_pos h6]; exact .inr h
 ·rename_i h6
  rw [if_neg h6]
  split at h
  ·rename_i h8
   rw [if_pos h8]; exact .inr h
  ·rename_i h8
   rw [if_neg h8]
   split at h
   ·rename_i h9
    rw [if_pos h9]
    simp at h
    rcases h with h | h
    ·exact .inr (by simp [h])
    ·exact .inl h
   ·simp at h
/-- a free name stays free where another is put in -/
theorem zJz : ∀ (f : Nat) (t : Tm) (s x : ByteArray) (b : Tm), s ∈ t.fv → s ≠ x → s ∈ (t.sub f x b).fv
 | 0, t, s, x, b, h, _ => by simp only [Tm.sub]; exact h
 | f + 1, .mk k nm ot n ty re l, s, x, b, h, hne => by
   have ih := zJz f
   rw [Tm.fv_mem] at h
   simp only [Tm.sub]
   split
   ·rename_i hk
    rcases h with ⟨_, h⟩ | ⟨h, _⟩
    ·rw [if_neg (fun hc => hne (by rw [h, hc]))]
     rw [Tm.fv_mem]
     exact .inl ⟨hk, h⟩
    ·exact absurd hk h
   ·rename_i hk
    obtain ⟨j, p, hj, hs⟩ : ∃ (j : Nat) (x : Tm), l[j]? = some x ∧ s ∈ fvI (ye k l.length) (bdN k nm ot l.length) j x := by
     rcases h with ⟨h, _⟩ | ⟨_, h⟩
     ·exact absurd h hk
     ·exact h
    unfold fvI at hs
    split
    ·rename_i hb
     rw [Tm.fv_mem]
     refine .inr ⟨hk, j, p.sub f x b, by rw [List.getElem?_map, hj]; rfl, ?_⟩
     rw [if_neg (by omega)] at hs
     unfold fvI
     rw [List.length_map, if_neg (by omega)]
     exact ih p s x b hs hne
    ·rename_i hb
     obtain ⟨g1, g2⟩ := xz hb
     have hjl : j < l.length := (List.getElem?_eq_some_iff.1 hj).1
     have hgd := zT g1
     split
     ·rw [Tm.fv_mem]
      by_cases hjb : (j : Int) = ye k l.length
      ·refine .inr ⟨hk, j, p, ?_, ?_⟩
       ·have : (ye k l.length).toNat = j := by omega
        rw [this] at hgd ⊢
        rw [List.getElem?_set_self (by simpa using hjl), ← Option.some.inj (hgd.symm.trans hj)]
       ·unfold fvI; simp only [List.length_set, List.length_map]; exact hs
      ·refine .inr ⟨hk, j, p.sub f x b, ?_, ?_⟩
       ·rw [List.getElem?_set_ne (by omega), List.getElem?_map, hj]; rfl
       ·rw [if_neg hjb] at hs
        unfold fvI
        simp only [List.length_set, List.length_map]
        rw [if_neg hjb]
        exact ih p s x b hs hne
     ·rw [Tm.fv_mem]
      by_cases hjb : (j : Int) = ye k l.length
      ·have hj2 : (ye k l.length).toNat = j := by omega
       rw [hj2] at hgd ⊢
       have hpe : l.getD j tm0 = p := Option.some.inj (hgd.symm.trans hj)
       rw [hpe]
       rw [if_pos hjb, qV] at hs
       obtain ⟨hs1, hs2⟩ := hs
       have r1 : ∀ (old : ByteArray) (st : ByteArray × ByteArray × Tm), s ≠ old → s ∈ st.2.2.fv → s ∉ bdN k st.1 st.2.1 l.length → s ∈ (rn1 (Tm.sub f) k l.length b.fv x old st).2.2.fv ∧ s ∉ bdN k (rn1 (Tm.sub f) k l.length b.fv x old st).1 (rn1 (Tm.sub f) k l.length b.fv x old st).2.1 l.length := fun old st h1 h2 h3 => by
        unfold rn1
        have hfr := zCE (b.fv ++ (st.2.2.fv ++ ([x] ++ bdN k st.1 st.2.1 l.length)))
        generalize fresh (b.fv ++ (st.2.2.fv ++ ([x] ++ bdN k st.1 st.2.1 l.length))) = w at hfr
        have hw : s ≠ w := fun hc => hfr (by rw [← hc]; simp [h2])
        split
        ·split
         ·exact ⟨ih _ _ _ _ h2 h1, fun hc => (zOD st.1 hc).elim hw h3⟩
         ·exact ⟨ih _ _ _ _ h2 h1, fun hc => (zNz st.2.1 hc).elim hw h3⟩
        ·exact ⟨h2, h3⟩
       have rs : ∀ (ns : List ByteArray) (st : ByteArray × ByteArray × Tm), (∀ o ∈ ns, s ≠ o) → s ∈ st.2.2.fv → s ∉ bdN k st.1 st.2.1 l.length → s ∈ (rns (Tm.sub f) k l.length b.fv x ns st).2.2.fv ∧ s ∉ bdN k (rns (Tm.sub f) k l.length b.fv x ns st).1 (rns (Tm.sub f) k l.length b.fv x ns st).2.1 l.length := by
        intro ns
        induction ns with
        | nil => exact fun st _ h2 h3 => ⟨h2, h3⟩
        | cons o os ih2 =>
          intro st h1 h2 h3
          obtain ⟨a1, a2⟩ := r1 o st (h1 o (by simp)) h2 h3
          exact ih2 _ (fun o' ho => h1 o' (by simp [ho])) a1 a2
       obtain ⟨a1, a2⟩ := rs (bdN k nm ot l.length) (nm, ot, p) (fun o ho hc => hs2 (hc ▸ ho)) hs1 hs2
       refine .inr ⟨hk, j, _, List.getElem?_set_self (by simpa using hjl), ?_⟩
       unfold fvI
       simp only [List.length_set, List.length_map]
       rw [if_pos hjb, qV]
       exact ⟨ih _ _ _ _ a1 hne, a2⟩
      ·refine .inr ⟨hk, j, p.sub f x b, ?_, ?_⟩
       ·rw [List.getElem?_set_ne (by omega), List.getElem?_map, hj]; rfl
       ·rw [if_neg hjb] at hs
        unfold fvI
        simp only [List.length_set, List.length_map]
        rw [if_neg hjb]
        exact ih p s x b hs hne
/-- what is put in is there -/
theorem zKk {f : Nat} (k : Int) (n : Nat) (fb : List ByteArray) (x : ByteArray) : ∀ (l : List ByteArray) (s : ByteArray × ByteArray × Tm), x ∉ l → x ∈ s.2.2.fv → x ∈ (rns (Tm.sub f) k n fb x l s).2.2.fv
 | [], s, _, h => h
 | old :: l, s, hx, h => by
   refine zKk k n fb x l _ (fun hc => hx (by simp [hc])) ?_
   unfold rn1
   have hne : x ≠ old := fun hc => hx (by simp [hc])
   split
   ·split <;> exact zJz f _ _ _ _ h hne
   ·exact h
theorem zKZ : ∀ (f : Nat) (t : Tm) (x : ByteArray) (b : Tm), t.dp ≤ f → x ∈ t.fv → b.sz ≤ (t.sub f x b).sz
 | 0, t, x, b, h, _ => absurd (Tm.dp_pos t) (by omega)
 | f + 1, .mk k nm ot n ty re l, x, b, hd, h => by
   have ih := zKZ f
   rw [Tm.fv_mem] at h
   simp only [Tm.dp] at hd
   have hdp := fun y hy => vl.1 (Nat.le_of_succ_le_succ hd) y hy
   simp only [Tm.sub]
   split
   ·rename_i hk
    rcases h with ⟨_, h⟩ | ⟨h, _⟩
    ·rw [if_pos h.symm]; exact Nat.le_refl _
    ·exact absurd hk h
   ·rename_i hk
    obtain ⟨j, p, hj, hs⟩ : ∃ (j : Nat) (y : Tm), l[j]? = some y ∧ x ∈ fvI (ye k l.length) (bdN k nm ot l.length) j y := by
     rcases h with ⟨h, _⟩ | ⟨_, h⟩
     ·exact absurd h hk
     ·exact h
    unfold fvI at hs
    have hpd := hdp p (List.mem_of_getElem? hj)
    have fin : ∀ (nm' ot' : ByteArray) (l' : List Tm) (y : Tm), l'[j]? = some y → b.sz ≤ y.sz → b.sz ≤ (Tm.mk k nm' ot' n ty re l').sz := fun nm' ot' l' y h1 h2 => by
     have := xm (List.mem_of_getElem? h1)
     simp only [Tm.sz]; omega
    split
    ·rename_i hb
     rw [if_neg (by omega)] at hs
     exact fin _ _ _ (p.sub f x b) (by rw [List.getElem?_map, hj]; rfl) (ih p x b hpd hs)
    ·rename_i hb
     obtain ⟨g1, g2⟩ := xz hb
     have hjl : j < l.length := (List.getElem?_eq_some_iff.1 hj).1
     have hgd := zT g1
     split
     ·rename_i hc
      by_cases hjb : (j : Int) = ye k l.length
      ·exfalso
       have : (ye k l.length).toNat = j := by omega
       rw [this] at hgd hc
       have hpe : l.getD j tm0 = p := Option.some.inj (hgd.symm.trans hj)
       rw [if_pos hjb, qV] at hs
       rw [hpe] at hc
       rcases hc with hc | hc
       ·exact hs.2 hc
       ·exact hc hs.1
      ·rw [if_neg hjb] at hs
       exact fin _ _ _ (p.sub f x b) (by rw [List.getElem?_set_ne (by omega), List.getElem?_map, hj]; rfl) (ih p x b hpd hs)
     ·rename_i hc
      by_cases hjb : (j : Int) = ye k l.length
      ·have hj2 : (ye k l.length).toNat = j := by omega
       rw [hj2] at hgd ⊢
       have hpe : l.getD j tm0 = p := Option.some.inj (hgd.symm.trans hj)
       rw [hpe]
       rw [if_pos hjb, qV] at hs
       have hle := uu (wR f) k l.length b.fv x (bdN k nm ot l.length) (nm, ot, p)
       have hled := hle.d
       refine fin _ _ _ _ (List.getElem?_set_self (by simpa using hjl)) (ih _ x b (Nat.le_trans hled hpd) (zKk _ _ _ _ _ _ hs.2 hs.1))
      ·rw [if_neg hjb] at hs
       exact fin _ _ _ (p.sub f x b) (by rw [List.getElem?_set_ne (by omega), List.getElem?_map, hj]; rfl) (ih p x b hpd hs)
theorem zKA {k : Nat} (h : k ≤ 999) : Lib.decDigits k = (if k < 10 then [UInt8.ofNat (48 + k)] else if k < 100 then [UInt8.ofNat (48 + k / 10), UInt8.ofNat (48 + k % 10)] else [UInt8.ofNat (48 + k / 10 / 10), UInt8.ofNat (48 + k / 10 % 10), UInt8.ofNat (48 + k % 10)]) := by
 have e1 : ∀ u, u < 10 → Lib.decDigits u = [UInt8.ofNat (48 + u)] := fun u h => by rw [Lib.decDigits, dif_pos h]
 have e2 : ∀ u, ¬ u < 10 → Lib.decDigits u = Lib.decDigits (u / 10) ++ [UInt8.ofNat (48 + u % 10)] := fun u h => by rw [Lib.decDigits, dif_neg h]
 split
 ·rename_i h1; exact e1 k h1
 ·rename_i h1
  rw [e2 k h1]
  split
  ·rename_i h2; rw [e1 _ (by omega)]; rfl
  ·rename_i h2
   rw [e2 (k / 10) (by omega), e1 _ (by omega)]; rfl
theorem zKW : ∀ a : _root_.Fin 10, yf ⟨#[118, UInt8.ofNat (48 + a.val)]⟩ = true := by decide +kernel
theorem zLl : ∀ a b : _root_.Fin 10, yf ⟨#[118, UInt8.ofNat (48 + a.val), UInt8.ofNat (48 + b.val)]⟩ = true := by decide +kernel
theorem zLG : ∀ a b c : _root_.Fin 10, yf ⟨#[118, UInt8.ofNat (48 + a.val), UInt8.ofNat (48 + b.val), UInt8.ofNat (48 + c.val)]⟩ = true := by decide +kernel
theorem zMh {k : Nat} (h : k ≤ 999) : yf (vB k) = true := by
 unfold vB
 rw [zKA h]
 split
 ·rename_i h1; exact zKW ⟨k, h1⟩
 ·split
  ·rename_i h1 h2; exact zLl ⟨k / 10, by omega⟩ ⟨k % 10, by omega⟩
  ·rename_i h1 h2; exact zLG ⟨k / 10 / 10, by omega⟩ ⟨k / 10 % 10, by omega⟩ ⟨k % 10, by omega⟩
theorem zGs {l : List ByteArray} (h : l.length ≤ 998) : yf (fresh l) = true := by
 obtain ⟨k, e, _, h2, _, _⟩ := uW l
 rw [e]
 exact zMh (by omega)
theorem Tm.vc_sz : ∀ t : Tm, t.vc ≤ t.sz := by
 refine Tm.ind fun k nm ot n ty re l ih => ?_
 have key : ∀ l : List Tm, (∀ t ∈ l, t.vc ≤ t.sz) → wN l ≤ zm l := by
  intro l
  induction l with
  | nil => intro _; exact Nat.le_refl _
  | cons t ts ih2 =>
    intro h
    have h1 := h t (by simp)
    have h2 := ih2 fun x hx => h x (by simp [hx])
    simp only [wN, zm]; omega
 have := key l ih
 simp only [Tm.vc, Tm.sz]
 split <;> omega
theorem Tm.ok_mk {k : Int} {nm ot : ByteArray} {n : Int} {ty re : Ty} {l : List Tm} : (Tm.mk k nm ot n ty re l).ok = true ↔ (∀ x ∈ l, x.ok = true) ∧ zK k nm ot n ty re = true ∧ (l.length : Int) = zG5 k nm := by
 simp only [Tm.ok, Bool.and_eq_true, zGk, beq_iff_eq]
theorem zKj {s : ByteArray} (h : yf s = true) : (pV s).ok = true := by
 refine Tm.ok_mk.2 ⟨by simp, ?_, rfl⟩
 have : (Ty.mk 0 []).valid = false := by decide +kernel
 simp [zK, rM, this, Ty.zero, Ty.k, Ty.as, inB, xb, h]
/-- the names of a form that binds can be others -/
theorem zLA {k : Int} {nm ot nm' ot' : ByteArray} {n : Int} {ty re : Ty} {m : Nat} (hb : ¬ ye k m < 0) (h : zK k nm ot n ty re = true) (h1 : yf nm' = true) (h2 : k = 9 → yf ot' = true ∧ nm' ≠ ot') (h3 : k ≠ 9 → ot' = ot) : zK k nm' ot' n ty re = true ∧ (zG5 k nm' = zG5 k nm) := by
 have hk : k = 6 ∨ k = 8 ∨ k = 9 := by
  rcases vA k m with h | ⟨_, _, h | h⟩ | ⟨_, _, h⟩
  ·omega
  ·exact .inl h
  ·exact .inr (.inr h)
  ·exact .inr (.inl h)
 rcases hk with rfl | rfl | rfl
 ·have h3 := h3 (by decide)
  subst h3
  refine ⟨?_, rfl⟩
  simp only [zK, xb, Bool.and_eq_true] at h ⊢
  simp [h1] at h ⊢
  exact ⟨h.1, h.2.1, h.2.2.1, h.2.2.2.1, h.2.2.2.2.1, h.2.2.2.2.2.2⟩
 ·have h3 := h3 (by decide)
  subst h3
  refine ⟨?_, rfl⟩
  simp only [zK, xb, Bool.and_eq_true] at h ⊢
  simp [h1] at h ⊢
  exact ⟨h.1, h.2.1, h.2.2.1, h.2.2.2.1, h.2.2.2.2.1, h.2.2.2.2.2.2⟩
 ·obtain ⟨h4, h5⟩ := h2 rfl
  refine ⟨?_, rfl⟩
  simp only [zK, xb, Bool.and_eq_true] at h ⊢
  simp [h1, h4, h5] at h ⊢
  exact ⟨h.1, h.2.1, h.2.2.1, h.2.2.2.1⟩
theorem zMq {k : Int} {nm ot : ByteArray} {n : Int} {ty re : Ty} {m : Nat} (hb : ¬ ye k m < 0) (h : zK k nm ot n ty re = true) : yf nm = true ∧ (k = 9 → yf ot = true ∧ nm ≠ ot) := by
 have hk : k = 6 ∨ k = 8 ∨ k = 9 := by
  rcases vA k m with h | ⟨_, _, h | h⟩ | ⟨_, _, h⟩
  ·omega
  ·exact .inl h
  ·exact .inr (.inr h)
  ·exact .inr (.inl h)
 rcases hk with rfl | rfl | rfl
 ·simp only [zK, xb, Bool.and_eq_true] at h
  refine ⟨?_, fun h => absurd h (by decide)⟩
  simp at h; exact h.2.2.2.2.2.1
 ·simp only [zK, xb, Bool.and_eq_true] at h
  refine ⟨?_, fun h => absurd h (by decide)⟩
  simp at h; exact h.2.2.2.2.2.1
 ·simp only [zK, xb, Bool.and_eq_true] at h
  simp at h
  exact ⟨h.2.2.2.2.1, fun _ => ⟨h.2.2.2.2.2.1, h.2.2.2.2.2.2⟩⟩
/-- a term in which a small term is put for a name is a term, if it is small -/
theorem zNO : ∀ (f : Nat) (e : Tm) (x : ByteArray) (b : Tm), e.dp ≤ f → e.ok = true → b.ok = true → (e.sub f x b).sz ≤ 400 → (e.sub f x b).ok = true
 | 0, e, x, b, h, _, _, _ => absurd (Tm.dp_pos e) (by omega)
 | f + 1, .mk k nm ot n ty re l, x, b, hd, he, hb, hs => by
   have ih := zNO f
   obtain ⟨h1, h2, h3⟩ := Tm.ok_mk.1 he
   simp only [Tm.dp] at hd
   have hdp := fun y hy => vl.1 (Nat.le_of_succ_le_succ hd) y hy
   simp only [Tm.sub] at hs ⊢
   split
   ·rename_i hk
    rw [if_pos hk] at hs
    split
    ·exact hb
    ·exact he
   ·rename_i hk
    rw [if_neg hk] at hs
    split
    ·rename_i hbd
     rw [if_pos hbd] at hs
     refine Tm.ok_mk.2 ⟨fun y hy => ?_, h2, by simpa using h3⟩
     obtain ⟨z, hz, rfl⟩ := List.mem_map.1 hy
     have := xm hy
     simp only [Tm.sz] at hs
     exact ih z x b (hdp z hz) (h1 z hz) hb (by omega)
    ·rename_i hbd
     rw [if_neg hbd] at hs
     obtain ⟨g1, g2⟩ := xz hbd
     have hgd := zT g1
     have hpm := List.mem_of_getElem? hgd
     generalize hp : l.getD (ye k l.length).toNat tm0 = p at hs hgd hpm ⊢
     have parts : ∀ (v : Tm) (s : Nat), v.ok = true → zm ((l.map fun t => Tm.sub f t x b).set (ye k l.length).toNat v) ≤ 400 → ∀ y ∈ (l.map fun t => Tm.sub f t x b).set (ye k l.length).toNat v, y.ok = true := fun v s hv hs y hy => by
      have hsz := xm hy
      rcases List.mem_or_eq_of_mem_set hy with hy | rfl
      ·obtain ⟨z, hz, rfl⟩ := List.mem_map.1 hy
       exact ih z x b (hdp z hz) (h1 z hz) hb (by omega)
      ·exact hv
     split
     ·rename_i hc
      rw [if_pos hc] at hs
      simp only [Tm.sz] at hs
      exact Tm.ok_mk.2 ⟨parts _ 0 (h1 p hpm) (by omega), h2, by simpa using h3⟩
     ·rename_i hc
      rw [if_neg hc] at hs
      have hxb : x ∉ bdN k nm ot l.length := fun h => hc (.inl h)
      have hxp : x ∈ p.fv := Decidable.not_not.1 fun h => hc (.inr h)
      have hpV := zOX p (h1 p hpm)
      have hpd := hdp p hpm
      obtain ⟨n1, n2⟩ := zMq hbd h2
      have hleT := uu (wR f) k l.length b.fv x (bdN k nm ot l.length) (nm, ot, p)
      have hled := hleT.d
      have hlast := xm (List.mem_of_getElem? (List.getElem?_set_self (l := l.map fun t => Tm.sub f t x b) (i := (ye k l.length).toNat) (a := Tm.sub f (rns (Tm.sub f) k l.length b.fv x (bdN k nm ot l.length) (nm, ot, p)).2.2 x b) (by simpa using g1)))
      simp only [Tm.sz] at hs
      have hfx := zKk (f := f) k l.length b.fv x (bdN k nm ot l.length) (nm, ot, p) hxb hxp
      have hbs := zKZ f _ x b (Nat.le_trans hled hpd) hfx
      have hps := zD8 f (rns (Tm.sub f) k l.length b.fv x (bdN k nm ot l.length) (nm, ot, p)).2.2 x b (hleT.v hpV)
      have hbf := Tm.fv_len b
      have hbv := Tm.vc_sz b
      have hfb : b.fv.length ≤ 400 := by omega
      -- one name
      have r1 : ∀ (old : ByteArray) (st : ByteArray × ByteArray × Tm), old ∈ bdN k st.1 st.2.1 l.length → st.2.2.ok = true → st.2.2.dp ≤ f → (rn1 (Tm.sub f) k l.length b.fv x old st).2.2.sz ≤ 400 → yf st.1 = true → (k = 9 → yf st.2.1 = true ∧ st.1 ≠ st.2.1) →
        (rn1 (Tm.sub f) k l.length b.fv x old st).2.2.ok = true ∧ yf (rn1 (Tm.sub f) k l.length b.fv x old st).1 = true ∧ (k = 9 → yf (rn1 (Tm.sub f) k l.length b.fv x old st).2.1 = true ∧ (rn1 (Tm.sub f) k l.length b.fv x old st).1 ≠ (rn1 (Tm.sub f) k l.length b.fv x old st).2.1) ∧ (k ≠ 9 → (rn1 (Tm.sub f) k l.length b.fv x old st).2.1 = st.2.1) := fun old st ho a1 a2 a3 a4 a5 => by
       have hfr := zCE (b.fv ++ (st.2.2.fv ++ ([x] ++ bdN k st.1 st.2.1 l.length)))
       unfold rn1 at a3 ⊢
       split
       ·rename_i hold
        rw [if_pos hold] at a3
        have hss : st.2.2.sz ≤ 400 := by
         split at a3
         ·exact Nat.le_trans (zD8 f _ _ _ (zOX _ a1)) a3
         ·exact Nat.le_trans (zD8 f _ _ _ (zOX _ a1)) a3
        have hsf := Tm.fv_len st.2.2
        have hsv := Tm.vc_sz st.2.2
        have hbn := sW k st.1 st.2.1 l.length
        have hnm := zGs (l := b.fv ++ (st.2.2.fv ++ ([x] ++ bdN k st.1 st.2.1 l.length))) (by simp only [List.length_append, List.length_cons, List.length_nil]; omega)
        generalize fresh (b.fv ++ (st.2.2.fv ++ ([x] ++ bdN k st.1 st.2.1 l.length))) = w at hfr hnm a3 ⊢
        have hw : w ∉ bdN k st.1 st.2.1 l.length := fun h => hfr (by simp [h])
        split
        ·rename_i hq
         rw [if_pos hq] at a3
         refine ⟨ih _ _ _ a2 a1 (zKj hnm) a3, hnm, fun h9 => ⟨(a5 h9).1, fun hcc => hw ?_⟩, fun _ => rfl⟩
         subst h9
         have h9 : l.length = 1 := by rcases vA 9 l.length with h | ⟨_, h, _⟩ | ⟨_, _, h⟩ <;> first | exact h | omega
         have hcc : w = st.2.1 := hcc
         rw [h9, hcc]; simp [bdN]
        ·rename_i hq
         rw [if_neg hq] at a3
         have h9 : k = 9 := by
          unfold bdN at ho
          (repeat' split at ho) <;> simp_all
         subst h9
         have hl1 : l.length = 1 := by rcases vA 9 l.length with h | ⟨_, h, _⟩ | ⟨_, _, h⟩ <;> first | exact h | omega
         refine ⟨ih _ _ _ a2 a1 (zKj hnm) a3, a4, fun _ => ⟨hnm, fun hcc => hw ?_⟩, fun h => absurd rfl h⟩
         have hcc : st.1 = w := hcc
         rw [hl1, ← hcc]; simp [bdN]
       ·exact ⟨a1, a4, a5, fun _ => rfl⟩
      have hstr : ∀ (os : List ByteArray) (st : ByteArray × ByteArray × Tm), st.2.2.V → (rns (Tm.sub f) k l.length b.fv x os st).2.2.sz ≤ 400 → st.2.2.sz ≤ 400 := fun os st hv h => Nat.le_trans (zKC (fun t x y h => zD8 f t x _ h) _ _ _ _ _ _ hv) h
      have fin : (rns (Tm.sub f) k l.length b.fv x (bdN k nm ot l.length) (nm, ot, p)).2.2.ok = true ∧ yf (rns (Tm.sub f) k l.length b.fv x (bdN k nm ot l.length) (nm, ot, p)).1 = true ∧
        (k = 9 → yf (rns (Tm.sub f) k l.length b.fv x (bdN k nm ot l.length) (nm, ot, p)).2.1 = true ∧ (rns (Tm.sub f) k l.length b.fv x (bdN k nm ot l.length) (nm, ot, p)).1 ≠ (rns (Tm.sub f) k l.length b.fv x (bdN k nm ot l.length) (nm, ot, p)).2.1) ∧
        (k ≠ 9 → (rns (Tm.sub f) k l.length b.fv x (bdN k nm ot l.length) (nm, ot, p)).2.1 = ot) := by
       have hall : (rns (Tm.sub f) k l.length b.fv x (bdN k nm ot l.length) (nm, ot, p)).2.2.sz ≤ 400 := by omega
       have hbc : bdN k nm ot l.length = [nm] ∨ (k = 9 ∧ l.length = 1 ∧ bdN k nm ot l.length = [nm, ot]) := by
        rcases vA k l.length with h | ⟨_, h, h | h⟩ | ⟨_, h, h'⟩
        ·omega
        ·left; subst h; rw [show l.length = 1 from ‹_›]; simp [bdN]
        ·right; subst h; rw [show l.length = 1 from ‹_›]; simp [bdN]
        ·left; subst h'; rw [h]; simp [bdN]
       rcases hbc with e | ⟨hk9, hl1, e⟩
       ·rw [e] at hall ⊢
        simp only [rns] at hall ⊢
        exact r1 nm (nm, ot, p) (by rw [e]; simp) (h1 p hpm) hpd hall n1 n2
       ·rw [e] at hall ⊢
        simp only [rns] at hall ⊢
        have q1 := zHw (wR f) k l.length b.fv x nm (nm, ot, p)
        have q2 := hstr [ot] _ (q1.v hpV) (by simpa only [rns] using hall)
        obtain ⟨b1, b2, b3, b4⟩ := r1 nm (nm, ot, p) (by rw [e]; simp) (h1 p hpm) hpd q2 n1 n2
        have q1d := q1.d
        have hm2 : ot ∈ bdN k (rn1 (Tm.sub f) k l.length b.fv x nm (nm, ot, p)).1 (rn1 (Tm.sub f) k l.length b.fv x nm (nm, ot, p)).2.1 l.length := by
         have : (rn1 (Tm.sub f) k l.length b.fv x nm (nm, ot, p)).2.1 = ot := by
          unfold rn1
          simp only [if_true]
          split <;> rfl
         rw [this, hk9, hl1]; simp [bdN]
        obtain ⟨d1, d2, d3, d4⟩ := r1 ot _ hm2 b1 (Nat.le_trans q1d hpd) hall b2 b3
        exact ⟨d1, d2, d3, fun h => absurd hk9 h⟩
      obtain ⟨fa, fb2, fc, fd⟩ := fin
      obtain ⟨u1, u2⟩ := zLA hbd h2 fb2 fc fd
      exact Tm.ok_mk.2 ⟨parts _ 0 (ih _ x b (Nat.le_trans hled hpd) fa hb (by omega)) (by omega), u1, by rw [u2]; simpa using h3⟩
theorem Tm.dp_mem {k : Int} {nm ot : ByteArray} {n : Int} {ty re : Ty} {l : List Tm} {y : Tm} (h : y ∈ l) : y.dp + 1 ≤ (Tm.mk k nm ot n ty re l).dp := by
 have := vl.1 (Nat.le_refl (pe l)) y h
 simp only [Tm.dp]; omega
theorem Tm.sz_mem {k : Int} {nm ot : ByteArray} {n : Int} {ty re : Ty} {l : List Tm} {y : Tm} (h : y ∈ l) : y.sz + 1 ≤ (Tm.mk k nm ot n ty re l).sz := by
 have := xm h
 simp only [Tm.sz]; omega
theorem zLD {e x : Tm} {i : Nat} (he : e.ok = true) (hx : x.ok = true) : (e.wth i x).ok = true := by
 cases e with
 | mk k nm ot n ty re l =>
 obtain ⟨h1, h2, h3⟩ := Tm.ok_mk.1 he
 refine Tm.ok_mk.2 ⟨fun y hy => ?_, h2, by simpa using h3⟩
 rcases List.mem_or_eq_of_mem_set hy with hy | rfl
 ·exact h1 y hy
 ·exact hx
theorem zLr {k : Int} {nm ot : ByteArray} {n : Int} {ty re : Ty} {l : List Tm} {i : Nat} {x : Tm} (h : i < l.length) : x.sz + 1 ≤ ((Tm.mk k nm ot n ty re l).wth i x).sz := by
 simp only [Tm.wth]
 exact Tm.sz_mem (List.mem_of_getElem? (List.getElem?_set_self h))
theorem zOP {e : Tm} {i : Nat} (he : e.ok = true) (hi : i < e.as.length) : (e.pt i).ok = true := by
 cases e with
 | mk k nm ot n ty re l => exact (Tm.ok_mk.1 he).1 _ (zJ hi)
theorem zNr {k n : Int} (h : (k = 2 ∧ 0 ≤ n ∧ n ≤ 10006) ∨ (k = 3 ∧ 0 ≤ n ∧ n ≤ 1)) : (zJx k n).ok = true := by
 have hz : (Ty.mk 0 []).valid = false := by decide +kernel
 rcases h with ⟨rfl, h⟩ | ⟨rfl, h⟩
 ·refine Tm.ok_mk.2 ⟨by simp, ?_, rfl⟩
  simp [zK, rM, hz, Ty.zero, Ty.k, Ty.as, inB, xb, h]
 ·refine Tm.ok_mk.2 ⟨by simp, ?_, rfl⟩
  simp [zK, rM, hz, Ty.zero, Ty.k, Ty.as, inB, xb, h]
theorem zOf {x : Tm} (h : x.ok = true) : (Tm.nod 10 [x]).ok = true := by
 have hz : (Ty.mk 0 []).valid = false := by decide +kernel
 refine Tm.ok_mk.2 ⟨by simpa using h, ?_, rfl⟩
 simp [zK, rM, hz, Ty.zero, Ty.k, Ty.as, inB, xb]
theorem zMs {e b : Tm} {x : ByteArray} (he : e.ok = true) (hb : b.ok = true) (h : (e.sb x b).sz ≤ 400) : (e.sb x b).ok = true := zNO _ e x b (Nat.le_refl _) he hb h
theorem zPL {e : Tm} (he : e.ok = true) (hs : e.apl.1.sz ≤ 400) : e.apl.1.ok = true := by
 cases e with
 | mk k nm ot n ty re l =>
 obtain ⟨h1, h2, h3⟩ := Tm.ok_mk.1 he
 obtain ⟨a1, a2, a3, a4, a5⟩ := xn he
 have g : ∀ i, i < l.length → (l.getD i tm0).ok = true := fun i hi => h1 _ (zJ hi)
 simp only [Tm.apl] at hs ⊢
 split
 ·rename_i hk
  unfold Tm.opr
  split
  ·refine zNr ?_
   simp only [Tm.nm]
   have hin := zJf nm (l.getD 0 tm0).no (l.getD 1 tm0).no
   unfold zDR
   by_cases ho : zGy nm = true
   ·rw [if_pos ho]; exact .inl ⟨rfl, hin.1, hin.2⟩
   ·rw [if_neg ho]
    simp only [zGy, Bool.or_eq_true, decide_eq_true_eq, not_or] at ho
    have := zFu ho.1 ho.2.1 ho.2.2 (l.getD 0 tm0).no (l.getD 1 tm0).no
    exact .inr ⟨rfl, this.1, this.2⟩
  ·exact he
 ·rename_i hk4
  rw [if_neg hk4] at hs
  split
  ·rename_i hk
   split
   ·rename_i hb
    have := zHq (g 0 (by have := a3 hk; omega)) hb
    refine g _ ?_
    have := a3 hk
    omega
   ·exact he
  ·rename_i hk5
   rw [if_neg hk5] at hs
   split
   ·rename_i hk
    rw [if_pos hk] at hs
    have hl := a2 (.inl hk)
    have q0 := g 0 (by omega)
    have q1 := g 1 (by omega)
    generalize l.getD 0 tm0 = p at hs q0 ⊢
    generalize l.getD 1 tm0 = q at hs q1 ⊢
    have hp : (p.kd = 6 ∨ p.kd = 9) → (p.pt 0).ok = true := fun h => by
     refine zOP q0 ?_
     cases p with
     | mk pk pn po pm pt pr pl =>
     have := (xn q0).1 (by simp only [Tm.kd] at h; omega)
     simp only [Tm.as]; omega
    split
    ·rename_i h6
     rw [if_pos h6] at hs
     exact zMs (hp (.inl h6)) q1 hs
    ·rename_i h6
     rw [if_neg h6] at hs
     split
     ·rename_i h9
      rw [if_pos h9] at hs
      have hV := zN1 (p.pt 0).dp (p.pt 0) p.nm p (zOX _ (hp (.inr h9))) (zOX _ q0)
      have hle := zD8 ((p.pt 0).sb p.nm p).dp ((p.pt 0).sb p.nm p) p.ot q hV
      exact zMs (zMs (hp (.inr h9)) q0 (Nat.le_trans hle hs)) q1 hs
     ·exact he
   ·rename_i hk7
    rw [if_neg hk7] at hs
    split
    ·rename_i hk
     rw [if_pos hk] at hs
     have hl := a2 (.inr hk)
     exact zMs (g 1 (by omega)) (g 0 (by omega)) hs
    ·rename_i hk8
     split
     ·rename_i hk
      split
      ·rename_i h10
       have q0 := g 0 (by have := a1 (by omega); omega)
       refine zOP q0 ?_
       generalize l.getD 0 tm0 = p at q0 h10 ⊢
       cases p with
       | mk pk pn po pm pt pr pl =>
       have := (xn q0).1 (by simp only [Tm.kd] at h10; omega)
       simp only [Tm.as]; omega
      ·exact he
     ·split
      ·rename_i hk
       split
       ·exact zOf (g 0 (by have := a1 (by omega); omega))
       ·exact he
      ·exact he
/-- the splice's part, and what comes in its place -/
theorem zPK {S : Tm → Tm × Int} {f : Nat} (hS : ∀ x : Tm, x.dp ≤ f → x.ok = true → (S x).1.sz ≤ 400 → (S x).1.ok = true) : ∀ (t : Tm) (m : Int), t.dp ≤ f + 1 → t.ok = true → (t.cod S m).1.sz ≤ 400 → (t.cod S m).1.ok = true := by
 refine Tm.ind fun k nm ot n ty re l ih m hd he hs => ?_
 obtain ⟨h1, h2, h3⟩ := Tm.ok_mk.1 he
 simp only [Tm.cod] at hs ⊢
 split
 ·rename_i hk
  rw [if_pos hk] at hs
  have hl := (xn he).1 (by omega)
  unfold zNi at hs ⊢
  have q0 : ((Tm.mk k nm ot n ty re l).pt 0).ok = true := h1 _ (zJ (by omega))
  have d0 : ((Tm.mk k nm ot n ty re l).pt 0).dp ≤ f := by
   have := Tm.dp_mem (k := k) (nm := nm) (ot := ot) (n := n) (ty := ty) (re := re) (zJ (l := l) (i := 0) (by omega))
   simp only [Tm.pt]; omega
  generalize hp : (Tm.mk k nm ot n ty re l).pt 0 = p at hs q0 d0 ⊢
  split
  ·split
   ·rename_i h10
    refine zOP q0 ?_
    cases p with
    | mk pk pn po pm pt pr pl =>
    have := (xn q0).1 (by simp only [Tm.kd] at h10; omega)
    simp only [Tm.as]; omega
   ·exact he
  ·rename_i hr
   rw [if_neg hr] at hs
   have := zLr (k := k) (nm := nm) (ot := ot) (n := n) (ty := ty) (re := re) (l := l) (i := 0) (x := (S p).1) (by omega)
   exact zLD he (hS p d0 q0 (by simp only at hs; omega))
 ·rename_i hk
  rw [if_neg hk] at hs
  have key : ∀ (xs : List Tm), (∀ x ∈ xs, x ∈ l) → ∀ l' r, zk S xs (yS k m) = some (l', r) → zm l' ≤ 400 → l'.length = xs.length ∧ ∀ x ∈ l', x.ok = true := by
   intro xs
   induction xs with
   | nil => intro _ l' r h; simp [zk] at h
   | cons x xs ihx =>
     intro hm l' r h hs
     have hx := hm x (by simp)
     simp only [zk] at h
     split at h
     ·cases h
      simp only [zm] at hs
      refine ⟨by simp, fun y hy => ?_⟩
      rcases List.mem_cons.1 hy with rfl | hy
      ·have hdx := Tm.dp_mem (k := k) (nm := nm) (ot := ot) (n := n) (ty := ty) (re := re) hx
       exact ih x hx _ (by omega) (h1 x hx) (by omega)
      ·exact h1 y (hm y (by simp [hy]))
     ·split at h
      ·cases h
      ·rename_i l2 r2 h2
       cases h
       simp only [zm] at hs
       obtain ⟨b1, b2⟩ := ihx (fun y hy => hm y (by simp [hy])) _ _ h2 (by omega)
       refine ⟨by simp [b1], fun y hy => ?_⟩
       rcases List.mem_cons.1 hy with rfl | hy
       ·exact h1 y hx
       ·exact b2 y hy
  cases hc : zk S l (yS k m) with
  | none => exact he
  | some p =>
    obtain ⟨l', r⟩ := p
    rw [hc] at hs
    simp only [Tm.sz] at hs
    obtain ⟨b1, b2⟩ := key l (fun x hx => hx) l' r hc (by omega)
    exact Tm.ok_mk.2 ⟨b2, h2, by rw [b1]; exact h3⟩
theorem zKv : ∀ (f : Nat) (e : Tm), e.dp ≤ f → e.ok = true → (e.stp f).1.sz ≤ 400 → (e.stp f).1.ok = true
 | 0, e, h, _, _ => absurd (Tm.dp_pos e) (by omega)
 | f + 1, .mk k nm ot n ty re l, hd, he, hs => by
   have ih := zKv f
   obtain ⟨h1, h2, h3⟩ := Tm.ok_mk.1 he
   simp only [Tm.stp] at hs ⊢
   split
   ·exact he
   ·rename_i hr
    rw [if_neg hr] at hs
    split
    ·rename_i hk
     rw [if_pos hk] at hs
     have hk : k = 10 := hk
     have hl := (xn he).1 (by omega)
     have hm := zJ (l := l) (i := 0) (by omega)
     have hdm := Tm.dp_mem (k := k) (nm := nm) (ot := ot) (n := n) (ty := ty) (re := re) hm
     have := zLr (k := k) (nm := nm) (ot := ot) (n := n) (ty := ty) (re := re) (l := l) (i := 0) (x := (Tm.cod (Tm.stp f) ((Tm.mk k nm ot n ty re l).pt 0) 1).1) (by omega)
     exact zLD he (zPK ih _ 1 (by simp only [Tm.pt]; omega) (h1 _ hm) (by simp only at hs; omega))
    ·rename_i hk
     rw [if_neg hk] at hs
     cases hg : goS (Tm.stp f) (Tm.mk k nm ot n ty re l) (l.take (rh k l.length)) 0 with
     | none =>
       rw [hg] at hs
       exact zPL he hs
     | some r =>
       rw [hg] at hs
       obtain ⟨j, x, g1, g2, rfl⟩ := zA9 hg
       have hxm : l[j]? = some x := by
        rw [List.getElem?_take] at g1
        split at g1
        ·exact g1
        ·cases g1
       have hm := List.mem_of_getElem? hxm
       have hdm := Tm.dp_mem (k := k) (nm := nm) (ot := ot) (n := n) (ty := ty) (re := re) hm
       simp only [Nat.zero_add] at hs ⊢
       have := zLr (k := k) (nm := nm) (ot := ot) (n := n) (ty := ty) (re := re) (l := l) (i := j) (x := (Tm.stp f x).1) (List.getElem?_eq_some_iff.1 hxm).1
       exact zLD he (ih x (by omega) (h1 x hm) (by omega))
theorem zBl {g : Tm → Tm} {m : Nat} : ∀ {l : List Tm}, (∀ t ∈ l, (g t).sz ≤ t.sz * m) → zm (l.map g) ≤ zm l * m
 | [], _ => by simp [zm]
 | t :: l, h => by
   have h1 := zBl (l := l) fun x hx => h x (by simp [hx])
   have h2 := h t (by simp)
   simp only [List.map_cons, zm, Nat.add_mul]
   omega
theorem pF {g : Tm → Tm} {m : Nat} {v : Tm} : ∀ {l : List Tm} {j : Nat}, (∀ t ∈ l, (g t).sz ≤ t.sz * m) → (∀ t, l[j]? = some t → v.sz ≤ t.sz * m) → zm ((l.map g).set j v) ≤ zm l * m
 | [], _, _, _ => by simp [zm]
 | t :: l, 0, h, hv => by
   have h1 := zBl (l := l) fun x hx => h x (by simp [hx])
   have h2 := hv t rfl
   simp only [List.map_cons, List.set_cons_zero, zm, Nat.add_mul]
   omega
 | t :: l, j + 1, h, hv => by
   have h1 := pF (l := l) (j := j) (v := v) (fun x hx => h x (by simp [hx])) fun x hx => hv x (by simpa using hx)
   have h2 := h t (by simp)
   simp only [List.map_cons, List.set_cons_succ, zm, Nat.add_mul]
   omega
theorem zKM : ∀ (f : Nat) (t : Tm) (x : ByteArray) (b : Tm), (t.sub f x b).sz ≤ t.sz * (b.sz + 1)
 | 0, t, x, b => by simp only [Tm.sub]; exact Nat.le_mul_of_pos_right _ (by omega)
 | f + 1, .mk k nm ot n ty re l, x, b => by
   have ih := zKM f
   have one : ∀ m : Nat, m ≤ zm l * (b.sz + 1) → 1 + m ≤ (1 + zm l) * (b.sz + 1) := fun m h => by rw [Nat.add_mul]; omega
   simp only [Tm.sub]
   split
   ·split
    ·simp only [Tm.sz]; rw [Nat.add_mul]; omega
    ·exact Nat.le_mul_of_pos_right _ (by omega)
   ·split
    ·simp only [Tm.sz]
     exact one _ (zBl fun t _ => ih t x b)
    ·rename_i hbd
     obtain ⟨g1, g2⟩ := xz hbd
     split
     ·simp only [Tm.sz]
      refine one _ (pF (fun t _ => ih t x b) fun t ht => ?_)
      rw [zT g1] at ht
      rw [← Option.some.inj ht]
      exact Nat.le_mul_of_pos_right _ (by omega)
     ·simp only [Tm.sz]
      refine one _ (pF (fun t _ => ih t x b) fun t ht => ?_)
      rw [zT g1] at ht
      rw [← Option.some.inj ht]
      exact Nat.le_trans (ih _ x b) (Nat.mul_le_mul_right _ (uu (wR f) _ _ _ _ _ _).s)
theorem qQ {x : Tm} : ∀ {l : List Tm} {i : Nat}, i < l.length → zm (l.set i x) + (l.getD i tm0).sz = zm l + x.sz
 | t :: l, 0, _ => by simp only [List.set_cons_zero, zm, List.getD_cons_zero]; omega
 | t :: l, i + 1, h => by
   have := qQ (x := x) (l := l) (i := i) (by simpa using h)
   simp only [List.set_cons_succ, zm, List.getD_cons_succ]; omega
theorem zJE {e : Tm} {i : Nat} : (e.pt i).sz ≤ e.sz := by
 cases e with
 | mk k nm ot n ty re l =>
 simp only [Tm.pt]
 by_cases h : i < l.length
 ·have := Tm.sz_mem (k := k) (nm := nm) (ot := ot) (n := n) (ty := ty) (re := re) (zJ h); omega
 ·rw [List.getD_eq_getElem?_getD, List.getElem?_eq_none (by omega)]
  simp only [Option.getD_none, tm0, Tm.sz, zm]; omega
theorem zPG (e : Tm) (h : e.sz ≤ 400) : e.apl.1.sz ≤ e.sz + 64481600 := by
 have big : ∀ (t b : Tm) (x : ByteArray) (m : Nat), t.sz ≤ m → b.sz ≤ 400 → (t.sb x b).sz ≤ m * 401 := fun t b x m h1 h2 =>
  Nat.le_trans (zKM _ t x b) (Nat.mul_le_mul h1 (by omega))
 cases e with
 | mk k nm ot n ty re l =>
 have g : ∀ i, (l.getD i tm0).sz ≤ 400 := fun i => Nat.le_trans (zJE (e := .mk k nm ot n ty re l)) h
 have gp : ∀ i j, ((l.getD i tm0).pt j).sz ≤ 400 := fun i j => Nat.le_trans zJE (g i)
 have g0 := g 0
 have g1 := g 1
 have gp0 := gp 0 0
 simp only [Tm.apl, Tm.opr]
 have k1 := big ((l.getD 0 tm0).pt 0) (l.getD 1 tm0) (l.getD 0 tm0).nm 400 gp0 g1
 have k2 := big ((l.getD 0 tm0).pt 0) (l.getD 0 tm0) (l.getD 0 tm0).nm 400 gp0 g0
 have k3 := big _ (l.getD 1 tm0) (l.getD 0 tm0).ot _ k2 g1
 have k4 := big (l.getD 1 tm0) (l.getD 0 tm0) nm 400 g1 g0
 have k5 := g (2 - (l.getD 0 tm0).no).toNat
 (repeat' split) <;> first | (simp only; omega) | (simp only [zJx, Tm.nod, Tm.sz, zm]; omega)
theorem zOt {S : Tm → Tm × Int} (hS : ∀ x : Tm, x.sz ≤ 400 → (S x).1.sz ≤ x.sz + 64481600) : ∀ (t : Tm) (m : Int), t.sz ≤ 400 → (t.cod S m).1.sz ≤ t.sz + 64481600 := by
 refine Tm.ind fun k nm ot n ty re l ih m hs => ?_
 simp only [Tm.cod]
 split
 ·unfold zNi
  split
  ·split
   ·have h1 := zJE (e := (Tm.mk k nm ot n ty re l).pt 0) (i := 0)
    have h2 := zJE (e := Tm.mk k nm ot n ty re l) (i := 0)
    simp only; omega
   ·simp only; omega
  ·have h2 := zJE (e := Tm.mk k nm ot n ty re l) (i := 0)
   have h3 := hS _ (Nat.le_trans h2 hs)
   simp only [Tm.wth, Tm.pt] at h3 ⊢
   by_cases h : 0 < l.length
   ·have := qQ (x := (S (l.getD 0 tm0)).1) h
    simp only [Tm.sz] at hs ⊢
    omega
   ·rw [List.set_eq_of_length_le (by omega)]; omega
 ·have key : ∀ (xs : List Tm), (∀ x ∈ xs, x ∈ l) → ∀ l' r, zk S xs (yS k m) = some (l', r) → zm l' ≤ zm xs + 64481600 := by
   intro xs
   induction xs with
   | nil => intro _ l' r h; simp [zk] at h
   | cons x xs ihx =>
     intro hm l' r h
     have hx := hm x (by simp)
     simp only [zk] at h
     split at h
     ·cases h
      have := ih x hx (yS k m) (by have := Tm.sz_mem (k := k) (nm := nm) (ot := ot) (n := n) (ty := ty) (re := re) hx; omega)
      simp only [zm]; omega
     ·split at h
      ·cases h
      ·rename_i l2 r2 h2
       cases h
       have := ihx (fun y hy => hm y (by simp [hy])) _ _ h2
       simp only [zm]; omega
  cases hc : zk S l (yS k m) with
  | none => simp only; omega
  | some p =>
    obtain ⟨l', r⟩ := p
    have := key l (fun x hx => hx) l' r hc
    simp only [Tm.sz]; omega
/-- a step of a small term is not great -/
theorem zNC : ∀ (f : Nat) (e : Tm), e.sz ≤ 400 → (e.stp f).1.sz ≤ e.sz + 64481600
 | 0, e, _ => by simp only [Tm.stp]; omega
 | f + 1, .mk k nm ot n ty re l, hs => by
   have ih := zNC f
   simp only [Tm.stp]
   split
   ·simp only; omega
   ·by_cases hk : (Tm.mk k nm ot n ty re l).kd = 10
    ·rw [if_pos hk]
     have h2 := zJE (e := Tm.mk k nm ot n ty re l) (i := 0)
     have h3 := zOt ih ((Tm.mk k nm ot n ty re l).pt 0) 1 (Nat.le_trans h2 hs)
     simp only [Tm.wth, Tm.pt] at h3 ⊢
     by_cases h : 0 < l.length
     ·have := qQ (x := ((l.getD 0 tm0).cod (Tm.stp f) 1).1) h
      simp only [Tm.sz] at hs ⊢
      omega
     ·rw [List.set_eq_of_length_le (by omega)]; omega
    ·rw [if_neg hk]
     cases hg : goS (Tm.stp f) (Tm.mk k nm ot n ty re l) (l.take (rh k l.length)) 0 with
     | none => exact zPG _ hs
     | some r =>
       obtain ⟨j, x, g1, g2, rfl⟩ := zA9 hg
       have hxm : l[j]? = some x := by
        rw [List.getElem?_take] at g1
        split at g1
        ·exact g1
        ·cases g1
       have hj := (List.getElem?_eq_some_iff.1 hxm).1
       have h3 := ih x (by have := Tm.sz_mem (k := k) (nm := nm) (ot := ot) (n := n) (ty := ty) (re := re) (List.mem_of_getElem? hxm); omega)
       have h4 := qQ (x := (Tm.stp f x).1) hj
       have h5 : l.getD j tm0 = x := by rw [List.getD_eq_getElem?_getD, hxm]; rfl
       rw [h5] at h4
       simp only [Nat.zero_add, Tm.wth, Tm.sz] at hs ⊢
       omega
/-- a run of a term: how it ends, and the rules of its steps -/
def ro : Nat → Nat → Tm → (Int × Tm × Nat) × List Int
 | 0, n, x => if x.sz > 400 then ((3, tm0, n), []) else if x.res then ((1, x, n), []) else ((2, x, n), [])
 | m + 1, n, x => if x.sz > 400 then ((3, tm0, n), []) else if x.res then ((1, x, n), []) else if (x.stp x.dp).2 = 0 then ((4, x, n), [])
   else ((ro m (n + 1) (x.stp x.dp).1).1, (x.stp x.dp).2 :: (ro m (n + 1) (x.stp x.dp).1).2)
def zH0 (e : Tm) (fuel : Int) : Int × Tm × Nat := if (pD e 0 && inB fuel 0 200) = true then (ro fuel.toNat 0 e).1 else (0, tm0, 0)
def rg (e : Tm) (fuel : Int) : List Int := if (pD e 0 && inB fuel 0 200) = true then (ro fuel.toNat 0 e).2 else []
theorem zBO : ∀ (m n : Nat) (x : Tm), n ≤ (ro m n x).1.2.2 ∧ (ro m n x).1.2.2 ≤ n + m
 | 0, n, x => by simp only [ro]; (repeat' split) <;> simp
 | m + 1, n, x => by
   have := zBO m (n + 1) (x.stp x.dp).1
   simp only [ro]; (repeat' split) <;> simp <;> omega
theorem zD4 : ∀ (t : Tm) (d : D), t.Is d → t.sz ≤ 1073741824 → zAR 49 [.dg 9 d] t.sz := by
 refine Tm.ind fun k nm ot n0 ty re l ih d hd hc N Q hQ => ?_
 obtain ⟨t0, t1, r0, r1, a, es, c, rfl, hh, hlen, hes⟩ := Tm.is_mk.1 hd
 simp only [Tm.sz] at hc
 refine zFV N _ Q fun _ => ⟨_, _, _, rfl, ?_⟩
 refine up hes hlen (fun i xs => ∀ (m : Nat) (N' : Nat), N ≤ N' → m + zm xs = 1 + zm l → xy Q N m a es c es.length i N') ?_ ?_ 1 N (Nat.le_refl _) rfl
 ·intro i hlt _ m N' hN' hm
  refine tj _ _ _ _ _ _ _ _ _ ?_
  simp only [zm] at hm
  repeat' first|with_reducible intro _|simp only[hlt,Y1,Y2,Y3,Y4]|(with_reducible first|refine X1 ?_ ?_|refine X2 ?_ ?_|refine X3 ?_ ?_|refine X4 ?_ ?_|refine X5 ?_ ?_|refine X6 ?_ ?_|refine X7 ?_ ?_|refine X8 ?_ ?_|refine X9 ?_ ?_)|refine⟨_,_,_,rfl,?_⟩|refine⟨_,rfl,?_⟩|((with_reducible refine And.intro ?_ ?_);·first|omega|trivial|(show _=_;rfl)|((with_reducible refine And.intro ?_ ?_)<;>first|omega|trivial|(show _=_;rfl)))|fail
  exact Qi (hQ _ (by omega)) (by simp only [Tm.sz]; omega)
 ·intro i x xs hat _ ih2 m N' hN' hm
  have hb := hat.b
  have hxc := xm hat.m
  simp only [zm] at hm
  refine tj _ _ _ _ _ _ _ _ _ ?_
  rw [hat.lt, hat.w, Int.toNat_natCast]
  refine ⟨⟨by omega, by omega⟩, fun N1 hN1 => ih x hat.m _ hat.r (by omega) N1 _ fun N2 hN2 _ => ?_⟩
  rw [i64_in _ (by omega)]
  have := ih2 (m + x.sz) N2 (by omega) (by omega)
  simpa using this
theorem p4 : ∀ (t : Tm) (d : D), t.Is d → t.sz ≤ 1073741824 → zAR 48 [.dg 9 d] t.sz := by
 refine Tm.ind fun k nm ot n0 ty re l ih d hd hc N Q hQ => ?_
 obtain ⟨t0, t1, r0, r1, a, es, c, rfl, hh, hlen, hes⟩ := Tm.is_mk.1 hd
 simp only [Tm.sz] at hc
 refine zFA N _ Q fun _ => ?_
 refine up hes hlen (fun i xs => ∀ (m : Nat) (N' : Nat), N ≤ N' → m + zm xs = 1 + zm l → xo Q N m i (.ag [.lit (.int .i64 k), .lit (.string nm), .lit (.string ot), .lit (.int .i64 n0), t0, t1, r0, r1, .sl a 9 es c]) N') ?_ ?_ 1 N (Nat.le_refl _) rfl
 ·intro i hlt _ m N' hN' hm
  refine tX _ _ _ _ _ _ ⟨_, _, _, rfl, ?_⟩
  simp only [zm] at hm
  rw [hlt]
  exact fun N2 hN2 => Qi (hQ _ (by omega)) (by simp only [Tm.sz]; omega)
 ·intro i x xs hat _ ih2 m N' hN' hm
  have hb := hat.b
  have hxc := xm hat.m
  simp only [zm] at hm
  refine tX _ _ _ _ _ _ ⟨_, _, _, rfl, ?_⟩
  rw [hat.lt, hat.w, Int.toNat_natCast]
  refine ⟨_, _, _, rfl, ⟨by omega, by omega⟩, fun N1 hN1 => ih x hat.m _ hat.r (by omega) N1 _ fun N2 hN2 _ => ?_⟩
  rw [i64_in _ (by omega)]
  have := ih2 (m + x.sz) N2 (by omega) (by omega)
  simpa using this
/-- a term's types are small -/
theorem zPR : ∀ t : Tm, t.ok = true → t.cnt ≤ 61 * t.sz := by
 refine Tm.ind fun k nm ot n ty re l ih h => ?_
 obtain ⟨h1, h2, h3⟩ := Tm.ok_mk.1 h
 have z1 : ∀ t : Ty, t.zero = true → t.cnt ≤ 30 := fun t ht => by
  cases t with
  | mk k l =>
  simp only [Ty.zero, Ty.k, Ty.as, Bool.and_eq_true, beq_iff_eq] at ht
  have : l = [] := List.eq_nil_of_length_eq_zero (by omega)
  subst this
  simp [Ty.cnt, zR]
 have v1 : ∀ t : Ty, t.valid = true → t.cnt ≤ 30 := fun t ht => by
  simp only [Ty.valid, Bool.and_eq_true, decide_eq_true_eq] at ht
  exact ht.1.1
 simp only [zK, Bool.and_eq_true, beq_iff_eq, Bool.or_eq_true] at h2
 have hty : ty.cnt ≤ 30 := by
  rcases h2.2.1 with h | h
  ·exact v1 _ (by rw [← h2.1, h])
  ·exact z1 _ h
 have hre : re.cnt ≤ 30 := by
  rcases h2.2.2.2.1 with h | h
  ·exact v1 _ (by rw [← h2.2.2.1]; simpa using h)
  ·exact z1 _ h
 have key : ∀ xs : List Tm, (∀ x ∈ xs, x ∈ l) → zr xs ≤ 61 * zm xs := by
  intro xs
  induction xs with
  | nil => intro _; exact Nat.le_refl _
  | cons x xs ihx =>
    intro hm
    have a1 := ih x (hm x (by simp)) (h1 x (hm x (by simp)))
    have a2 := ihx fun y hy => hm y (by simp [hy])
    simp only [zr, zm]; omega
 have := key l fun x hx => hx
 simp only [Tm.cnt, Tm.sz]; omega
/-- a term that is reached by steps -/
structure Rch (x : Tm) : Prop where
 g : x.G
 s : x.sz ≤ 64482000
 o : x.sz ≤ 400 → x.ok = true
theorem Rch.F {x : Tm} (h : Rch x) (hs : x.sz ≤ 400) : x.F x.dp := ⟨h.o hs, Nat.le_refl _, by have := zPR x (h.o hs); omega⟩
theorem Rch.step {x : Tm} (h : Rch x) (hs : x.sz ≤ 400) : Rch (x.stp x.dp).1 := ⟨zOr _ _ h.g, by have := zNC x.dp x hs; omega, fun h2 => zKv _ x (Nat.le_refl _) (h.o hs) h2⟩
theorem Rch.of {e : Tm} (h1 : e.ok = true) (h2 : e.cnt ≤ 4000000) : Rch e := ⟨Tm.G_cnt e (by omega), by have := Tm.sz_cnt e; omega, fun _ => h1⟩
/-- how a run ends, as data -/
def zOm (r : Int × Tm × Nat) (d : D) : Prop := ∃ cs, d = .ag (.lit (.int .i64 r.1) :: (cs ++ [.lit (.int .i64 (r.2.2 : Nat))])) ∧ r.2.1.Is (.ag cs)
theorem pW (m n : Nat) (x : Tm) : ro m n x = if x.sz > 400 then ((3, tm0, n), []) else if x.res then ((1, x, n), []) else match m with
  | 0 => ((2, x, n), [])
  | m + 1 => if (x.stp x.dp).2 = 0 then ((4, x, n), []) else ((ro m (n + 1) (x.stp x.dp).1).1, (x.stp x.dp).2 :: (ro m (n + 1) (x.stp x.dp).1).2) := by
 cases m <;> rfl
theorem zHf {s : Int} {k n0 : Int} {nm ot : ByteArray} {ty re : Ty} {l : List Tm} {n : Nat} {y0 y1 y2 y3 y4 y5 y6 y7 y8 : D} (h : (Tm.mk k nm ot n0 ty re l).Is (.ag [y0, y1, y2, y3, y4, y5, y6, y7, y8])) :
 zOm (s, Tm.mk k nm ot n0 ty re l, n) (.ag [.lit (.int .i64 s), y0, y1, y2, y3, y4, y5, y6, y7, y8, .lit (.int .i64 (n : Nat))]) := ⟨_, rfl, h⟩
theorem zOj {s : Int} {n : Nat} : zOm (s, tm0, n) (.ag [.lit (.int .i64 s), .lit (.int .i64 0), .lit (.string (bytes [])), .lit (.string (bytes [])), .lit (.int .i64 0), .lit (.int .i64 0), .sl none 2 [] 0, .lit (.int .i64 0), .sl none 2 [] 0, .sl none 9 [] 0, .lit (.int .i64 (n : Nat))]) := ⟨_, rfl, zFn⟩
theorem Fresh.mono {N0 N1 N M : Nat} {a : Option Addr} {ds : List D} (h : Fresh N0 N a ds) (h1 : N1 ≤ N0) (h2 : N ≤ M) : Fresh N1 M a ds :=
 ⟨fun ad h' => Nat.le_trans h1 (h.lo ad h'), fun ad h' => Nat.lt_of_lt_of_le (h.hi ad h') h2, h.off, h.ap⟩
theorem Rs.cells {r : Int × Tm × Nat} {d : D} (h : zOm r d) : ∃ y0 y1 y2 y3 y4 y5 y6 y7 y8, d = .ag [.lit (.int .i64 r.1), y0, y1, y2, y3, y4, y5, y6, y7, y8, .lit (.int .i64 (r.2.2 : Nat))] ∧ r.2.1.Is (.ag [y0, y1, y2, y3, y4, y5, y6, y7, y8]) := by
 obtain ⟨cs, rfl, h⟩ := h
 obtain ⟨s, t, n⟩ := r
 cases t with
 | mk k nm ot n0 ty re l =>
 obtain ⟨t0, t1, r0, r1, a, es, c, he, hh, hlen, hes⟩ := Tm.is_mk.1 h
 injection he with he
 subst he
 exact ⟨_, _, _, _, _, _, _, _, _, rfl, h⟩
theorem zCv {e : Tm} {d : D} (he : e.Is d) (hc : e.cnt ≤ 4000000) (fu : Int) (N : Nat) (Q : QT [.ag 11]) (hQ : ∀ d N', N ≤ N' → zOm (zH0 e fu) d → Q d N') : ACalls prog 23 [.ag 11] [.dg 9 d, .int .i64 fu] N Q := by
 have hG := Tm.G_cnt e (by omega)
 unfold zH0 at hQ
 refine zDF N _ fu Q fun _ N1 hN1 => zCC e d he (by omega) 0 N1 _ fun N2 hN2 _ => Br.not (fun hv N3 hN3 => ?_) fun hv N4 hN4 => xh _ _ _ N4 _ fun N5 hN5 _ => Br.not (fun hb N6 hN6 => ?_) fun hb N7 hN7 => ?_
 ·rw [if_neg (by rw [hv]; simp)] at hQ
  exact hQ _ _ (by omega) zOj
 ·rw [if_neg (by rw [hv, hb]; decide)] at hQ
  exact hQ _ _ (by omega) zOj
 rw [if_pos (by rw [hv, hb]; rfl)] at hQ
 have hbi := y9.1 hb
 have hok : e.ok = true := by unfold pD at hv; simp at hv; exact hv.1
 have hR := Rch.of hok hc
 refine um e d he hG N7 _ ?_
 obtain ⟨F, rfl⟩ : ∃ F : Nat, fu = (F : Int) := ⟨fu.toNat, by omega⟩
 rw [Int.toNat_natCast] at hQ
 have rest : ∀ (m n : Nat) (x : Tm) (dx : D) (N' : Nat), N ≤ N' → n + m = F → Rch x → x.Is dx → (∀ d N', N ≤ N' → zOm (ro m n x).1 d → Q d N') → yg Q N (F : Nat) n 0 0 (bytes []) (bytes []) 0 0 none [] 0 0 none [] 0 none [] 0 0 dx N' := by
  intro m
  induction m with
  | zero =>
    intro n x dx N' hN' hn hx hdx hq
    rw [pW] at hq
    have hxs := hx.s
    refine vX _ _ _ _ _ _ _ _ _ _ _ _ _ _ _ _ _ _ _ _ _ _ _ fun N1 hN1 => p4 x dx hdx (by omega) N1 _ fun N2 hN2 _ => Br.dec (fun h4 N3 hN3 => ?_) fun h4 N4 hN4 => ?_
    ·rw [if_pos (by omega)] at hq; exact hq _ _ (by omega) zOj
    ·rw [if_neg (by omega)] at hq
     have hF := hx.F (by omega)
     refine zW hdx hF.ok hF.dp N4 _ fun N5 hN5 _ => Br.of (fun hr N6 hN6 => ?_) fun hr => Br.beq (fun _ N7 hN7 => ?_) fun hne => absurd (by omega) hne
     ·rw [if_pos hr] at hq
      cases x with
      | mk k nm ot n0 ty re l =>
      obtain ⟨t0, t1, r0, r1, a, es, c, rfl, hh, hlen, hes⟩ := Tm.is_mk.1 hdx
      exact hq _ _ (by omega) (zHf hdx)
     ·rw [if_neg (by rw [hr]; decide)] at hq
      cases x with
      | mk k nm ot n0 ty re l =>
      obtain ⟨t0, t1, r0, r1, a, es, c, rfl, hh, hlen, hes⟩ := Tm.is_mk.1 hdx
      exact hq _ _ (by omega) (zHf hdx)
  | succ m ih =>
    intro n x dx N' hN' hn hx hdx hq
    rw [pW] at hq
    have hxs := hx.s
    refine vX _ _ _ _ _ _ _ _ _ _ _ _ _ _ _ _ _ _ _ _ _ _ _ fun N1 hN1 => p4 x dx hdx (by omega) N1 _ fun N2 hN2 _ => Br.dec (fun h4 N3 hN3 => ?_) fun h4 N4 hN4 => ?_
    ·rw [if_pos (by omega)] at hq; exact hq _ _ (by omega) zOj
    ·rw [if_neg (by omega)] at hq
     have hF := hx.F (by omega)
     refine zW hdx hF.ok hF.dp N4 _ fun N5 hN5 _ => Br.of (fun hr N6 hN6 => ?_) fun hr => Br.beq (fun hne => absurd hne (by omega)) fun _ N8 hN8 => ?_
     ·rw [if_pos hr] at hq
      cases x with
      | mk k nm ot n0 ty re l =>
      obtain ⟨t0, t1, r0, r1, a, es, c, rfl, hh, hlen, hes⟩ := Tm.is_mk.1 hdx
      exact hq _ _ (by omega) (zHf hdx)
     ·rw [if_neg (by rw [hr]; decide)] at hq
      refine sK _ _ _ hdx hF N8 _ fun dy N9 hN9 hy _ _ => Br.beq (fun h0 N10 hN10 => ?_) fun h0 => ?_
      ·simp only at hq
       rw [if_pos h0] at hq
       cases x with
       | mk k nm ot n0 ty re l =>
       obtain ⟨t0, t1, r0, r1, a, es, c, rfl, hh, hlen, hes⟩ := Tm.is_mk.1 hdx
       exact hq _ _ (by omega) (zHf hdx)
      ·simp only at hq
       rw [if_neg h0] at hq
       rw [i64_in _ (by omega)]
       have := ih (n + 1) _ dy N9 (by omega) (by omega) (hx.step (by omega)) hy hq
       simpa using this
 cases e with
 | mk k nm ot n0 ty re l =>
 intro x4 x5 x6 x7 es' c' N8 hN8 hh' hes' ho' _ _
 have hl' := hes'.len
 have hgl := hG.2.2.1
 have hxs := hR.s
 refine zAe _ _ _ _ _ _ _ _ _ _ _ _ _ _ _ _ _ _ _ _ _ _ _ _ _ _ _ _ _ _ _ _ _ _ ⟨⟨rfl, rfl⟩, ⟨rfl, rfl⟩, fun a1 N9 hN9 _ N10 hN10 => ?_⟩
 have hdx : (Tm.mk k nm ot n0 ty re l).Is (.ag [.lit (.int .i64 k), .lit (.string nm), .lit (.string ot), .lit (.int .i64 n0), x4, x5, x6, x7, .sl a1 9 es' c']) := Tm.is_mk.2 ⟨_, _, _, _, _, _, _, rfl, hh', by omega, hes'⟩
 rw [pW] at hQ
 refine p4 _ _ hdx (by omega) N10 _ fun N11 hN11 _ => Br.dec (fun h4 N3 hN3 => ?_) fun h4 N12 hN12 => ?_
 ·rw [if_pos (by omega)] at hQ; exact hQ _ _ (by omega) zOj
 rw [if_neg (by omega)] at hQ
 have hF := hR.F (by omega)
 refine zW hdx hF.ok hF.dp N12 _ fun N13 hN13 _ => Br.of (fun hr N6 hN6 => ?_) fun hr => Br.beq (fun h0 N7 hN7 => ?_) fun hne N14 hN14 => ?_
 ·rw [if_pos hr] at hQ; exact hQ _ _ (by omega) (zHf hdx)
 ·rw [if_neg (by rw [hr]; decide)] at hQ
  have : F = 0 := by omega
  subst this
  exact hQ _ _ (by omega) (zHf hdx)
 ·rw [if_neg (by rw [hr]; decide)] at hQ
  obtain ⟨m, rfl⟩ : ∃ m, F = m + 1 := ⟨F - 1, by omega⟩
  simp only at hQ
  refine sK _ _ _ hdx hF N14 _ fun dy N15 hN15 hy _ _ => Br.beq (fun h0 N16 hN16 => ?_) fun h0 => ?_
  ·rw [if_pos h0] at hQ; exact hQ _ _ (by omega) (zHf hdx)
  ·rw [if_neg h0] at hQ
   rw [i64_in _ (by omega)]
   exact rest m 1 _ dy N15 (by omega) (by omega) (hR.step (by omega)) hy hQ
def zI (l : List Int) : List D := l.map fun n => .lit (.int .i64 n)
theorem sP (l : List Int) : (zI l).length = l.length := by simp [zI]
theorem uJ : ∀ l : List Int, zB (zI l) = []
 | [] => rfl
 | s :: l => by simp only [zI, List.map_cons, zB, D.foot, List.nil_append]; exact uJ l
theorem zDb : ∀ l : List Int, yv (zI l)
 | [] => trivial
 | s :: l => ⟨trivial, zDb l⟩
theorem zIa {N N' : Nat} (l : List Int) : OwnL N N' (zI l) := ⟨by rw [uJ]; simp, zDb l, by rw [uJ]; simp, by rw [uJ]; simp⟩
theorem zI6 : ∀ l : List Int, All2 (fun b d => d = .lit (.int .i64 b)) l (zI l)
 | [] => rfl
 | s :: l => ⟨_, _, rfl, rfl, zI6 l⟩
theorem zD2 (l : List Int) (n : Int) : zI l ++ [.lit (.int .i64 n)] = zI (l ++ [n]) := by simp [zI]
theorem zHu {l : List Int} {n : Int} (h : l.length ≤ 200) : zH (zI l) [.lit (.int .i64 n)] 8 := by
 unfold zH; rw [List.length_append, sP]; simp only [List.length_cons, List.length_nil]; omega
/-- returns these numbers in memory of its own -/
def zPW (f : FuncId) (args : List PV) (l : List Int) : Prop := ∀ (N : Nat) (Q : QT [.sl 0]), (∀ a c N', N ≤ N' → Own N N' (.sl a 0 (zI l) c) → Q a (zI l) c N') → ACalls prog f [.sl 0] args N Q
theorem zC4 {e : Tm} {d : D} (he : e.Is d) (hc : e.cnt ≤ 4000000) (fu : Int) : zPW 18 [.dg 9 d, .int .i64 fu] (rg e fu) := fun N Q hQ => by
 have hG := Tm.G_cnt e (by omega)
 refine zCr N d fu Q fun _ N1 hN1 => zCv he hc fu N1 _ fun w N2 hN2 hw _ _ => ?_
 obtain ⟨y0, y1, y2, y3, y4, y5, y6, y7, y8, rfl, _⟩ := Rs.cells hw
 clear hw
 refine ⟨_, rfl, fun N3 hN3 => um e d he hG N3 _ ?_⟩
 unfold rg at hQ
 unfold zH0
 cases e with
 | mk k nm ot n0 ty re l =>
 intro x4 x5 x6 x7 es' c' N4 hN4 hh' hes' ho' _ _
 have hl' := hes'.len
 have hgl := hG.2.2.1
 have fin : ∀ (L : List Int) (q M : Nat), N ≤ M → (∀ a c N', N ≤ N' → Own N N' (.sl a 0 (zI L) c) → Q a (zI L) c N') →
   ((zI L).length = (zI L).length ∧ q = q) ∧ ((zI L).length = (zI L).length ∧ q = q) ∧ ((zI L).length = (zI L).length ∧ q = q) ∧ ∀ a N4, M ≤ N4 → Fresh N N4 a [D.ag (zI L)] → ∀ N5, N4 ≤ N5 → Q a (zI L) q N5 := fun L q M hM h =>
  ⟨⟨rfl, rfl⟩, ⟨rfl, rfl⟩, ⟨rfl, rfl⟩, fun a N8 hN8 hf N9 hN9 => h _ _ _ (by omega) ((zAE (N1 := N8) (zIa _) hf (Nat.le_refl _)).mono (Nat.le_refl _) hN9)⟩
 by_cases hv : (pD (.mk k nm ot n0 ty re l) 0 && inB fu 0 200) = true
 case neg =>
  rw [if_neg hv] at hQ ⊢
  exact xa _ _ _ _ _ _ _ _ _ _ _ _ _ _ _ _ _ _ _ _ _ (Br.dec (fun h => absurd h (by simp)) fun _ => fin [] 0 N4 (by omega) hQ)
 case pos =>
 rw [if_pos hv] at hQ ⊢
 have hbi : inB fu 0 200 = true := by simp at hv; exact hv.2
 have hbi := y9.1 hbi
 have hok : (Tm.mk k nm ot n0 ty re l).ok = true := by unfold pD at hv; simp at hv; exact hv.1.1
 have hR := Rch.of hok hc
 obtain ⟨F, rfl⟩ : ∃ F : Nat, fu = (F : Int) := ⟨fu.toNat, by omega⟩
 rw [Int.toNat_natCast] at hQ ⊢
 have hS : (ro F 0 (.mk k nm ot n0 ty re l)).1.2.2 ≤ 200 := by have := zBO F 0 (.mk k nm ot n0 ty re l); omega
 have rest : ∀ (S m n : Nat) (x : Tm) (dx : D) (acc : List Int) (q N' : Nat), S ≤ 200 → N ≤ N' → Rch x → x.Is dx → (ro m n x).1.2.2 = S → acc.length = n → (∀ a c N', N ≤ N' → Own N N' (.sl a 0 (zI (acc ++ (ro m n x).2)) c) → Q a (zI (acc ++ (ro m n x).2)) c N') →
   z8 Q N (zI acc).length q (S : Nat) (n : Nat) (zI acc) q dx N' := by
  intro S m
  induction m with
  | zero =>
    intro n x dx acc q N' hS hN' hx hdx hs ha hq
    have h1 : (ro 0 n x).1.2.2 = n ∧ (ro 0 n x).2 = [] := by simp only [ro]; (repeat' split) <;> simp
    rw [h1.2, List.append_nil] at hq
    refine xd _ _ _ _ _ _ _ _ _ _ (Br.dec (fun h => by omega) fun _ => fin acc q N' hN' hq)
  | succ m ih =>
    intro n x dx acc q N' hS hN' hx hdx hs ha hq
    rw [pW] at hs hq
    have stop : ∀ r : Int × Tm × Nat, r.2.2 = n → (r, ([] : List Int)).1.2.2 = S → (∀ a c N', N ≤ N' → Own N N' (.sl a 0 (zI (acc ++ (r, ([] : List Int)).2)) c) → Q a (zI (acc ++ (r, ([] : List Int)).2)) c N') →
      z8 Q N (zI acc).length q (S : Nat) (n : Nat) (zI acc) q dx N' := fun r h1 h2 h3 => by
     simp only [List.append_nil] at h2 h3
     exact xd _ _ _ _ _ _ _ _ _ _ (Br.dec (fun h => by omega) fun _ => fin acc q N' hN' h3)
    by_cases h400 : x.sz > 400
    ·rw [if_pos h400] at hs hq; exact stop _ rfl hs hq
    rw [if_neg h400] at hs hq
    by_cases hr : x.res = true
    ·rw [if_pos hr] at hs hq; exact stop _ rfl hs hq
    rw [if_neg hr] at hs hq
    simp only at hs hq
    by_cases h0 : (x.stp x.dp).2 = 0
    ·rw [if_pos h0] at hs hq; exact stop _ rfl hs hq
    rw [if_neg h0] at hs hq
    have hge := zBO m (n + 1) (x.stp x.dp).1
    simp only at hs hq
    refine xd _ _ _ _ _ _ _ _ _ _ (Br.dec (fun h N5 hN5 => ?_) fun h => absurd (by omega) h)
    refine sK _ _ _ hdx (hx.F (by omega)) N5 _ fun dy N6 hN6 hy _ _ => ⟨⟨rfl, rfl⟩, zHu (by omega), fun c => ?_⟩
    rw [i64_in _ (by omega), zD2]
    have := ih (n + 1) _ dy (acc ++ [(x.stp x.dp).2]) c N6 hS (by omega) (hx.step (by omega)) hy hs (by simp; omega) (by simpa using hq)
    simpa using this
 generalize hSS : (ro F 0 (.mk k nm ot n0 ty re l)).1.2.2 = S at hS ⊢
 cases F with
 | zero =>
   have h1 : (ro 0 0 (.mk k nm ot n0 ty re l)).1.2.2 = 0 ∧ (ro 0 0 (.mk k nm ot n0 ty re l)).2 = [] := by simp only [ro]; (repeat' split) <;> simp
   rw [h1.2] at hQ
   exact xa _ _ _ _ _ _ _ _ _ _ _ _ _ _ _ _ _ _ _ _ _ (Br.dec (fun h => by omega) fun _ => fin [] 0 N4 (by omega) hQ)
 | succ m =>
   rw [pW] at hSS hQ
   have stop : ∀ r : Int × Tm × Nat, r.2.2 = 0 → (r, ([] : List Int)).1.2.2 = S → (∀ a c N', N ≤ N' → Own N N' (.sl a 0 (zI (r, ([] : List Int)).2) c) → Q a (zI (r, ([] : List Int)).2) c N') →
     wl Q N 0 0 (S : Nat) 0 [] 0 k nm ot n0 x4 x5 x6 x7 es'.length c' es' c' N4 := fun r h1 h2 h3 => by
    exact xa _ _ _ _ _ _ _ _ _ _ _ _ _ _ _ _ _ _ _ _ _ (Br.dec (fun h => by simp only at h2; omega) fun _ => fin [] 0 N4 (by omega) h3)
   generalize hxx : Tm.mk k nm ot n0 ty re l = x at hSS hQ hR
   by_cases h400 : x.sz > 400
   ·rw [if_pos h400] at hSS hQ; exact stop _ rfl hSS hQ
   rw [if_neg h400] at hSS hQ
   by_cases hr : x.res = true
   ·rw [if_pos hr] at hSS hQ; exact stop _ rfl hSS hQ
   rw [if_neg hr] at hSS hQ
   simp only at hSS hQ
   by_cases h0 : (x.stp x.dp).2 = 0
   ·rw [if_pos h0] at hSS hQ; exact stop _ rfl hSS hQ
   rw [if_neg h0] at hSS hQ
   have hge := zBO m (0 + 1) (x.stp x.dp).1
   simp only at hSS hQ
   refine xa _ _ _ _ _ _ _ _ _ _ _ _ _ _ _ _ _ _ _ _ _ (Br.dec (fun h => ⟨⟨rfl, rfl⟩, ⟨rfl, rfl⟩, fun a1 N5 hN5 _ N6 hN6 => ?_⟩) fun h => absurd (by omega) h)
   have hdx : x.Is (.ag [.lit (.int .i64 k), .lit (.string nm), .lit (.string ot), .lit (.int .i64 n0), x4, x5, x6, x7, .sl a1 9 es' c']) := hxx ▸ Tm.is_mk.2 ⟨_, _, _, _, _, _, _, rfl, hh', by omega, hes'⟩
   refine sK _ _ _ hdx (hR.F (by omega)) N6 _ fun dy N7 hN7 hy _ _ => ⟨⟨rfl, rfl⟩, zHu (l := []) (by simp), fun c => ?_⟩
   rw [i64_in _ (by omega)]
   exact rest S m 1 _ dy [(x.stp x.dp).2] c N7 hS (by omega) (hR.step (by omega)) hy hSS rfl hQ
/-- the closure writes the rule behind the others -/
theorem zCp {e : Tm} {d : D} (he : e.Is d) (hc : e.cnt ≤ 4000000) (fu : Int) : zPW 19 [.dg 9 d, .int .i64 fu] (rg e fu) := fun N Q hQ => by
 have hG := Tm.G_cnt e (by omega)
 unfold rg at hQ
 refine zDO N d fu Q fun _ M1 hM1 => pO M1 d fu 0 0 [] 0 _ fun E _ _ N1 hN1 => ?_
 have fin : ∀ (X : D) (L : List Int) (q M : Nat), M1 ≤ M → (∀ a c N', N ≤ N' → Own N N' (.sl a 0 (zI L) c) → Q a (zI L) c N') →
   zLQ E [.var [.sb 1 0 0 0 0], .arr 3 0 [] 0] ∧ ((zI L).length = (zI L).length ∧ q = q) ∧ ∀ N2, M ≤ N2 → (M1 ≤ N2 → Bel N2 X → Bel N2 (D.sl none 0 (zI L) q) → ((zI L).length = (zI L).length ∧ q = q) ∧ ((zI L).length = (zI L).length ∧ q = q) ∧ ((zI L).length = (zI L).length ∧ q = q) ∧ ∀ a N3, N2 ≤ N3 → Fresh N N3 a [D.ag (zI L)] → ∀ N4, N3 ≤ N4 → Q a (zI L) q N4) := fun X L q M hM h =>
  ⟨zPh, ⟨rfl, rfl⟩, fun N2 hN2 _ _ _ => ⟨⟨rfl, rfl⟩, ⟨rfl, rfl⟩, ⟨rfl, rfl⟩, fun a N8 hN8 hf N9 hN9 => h _ _ _ (by omega) ((zAE (N1 := N8) (zIa _) hf (Nat.le_refl _)).mono (Nat.le_refl _) hN9)⟩⟩
 refine ta e d he (by omega) 0 N1 _ fun N2 hN2 _ => Br.not (fun hv => ?_) fun hv N4 hN4 => yj _ _ _ N4 _ fun N5 hN5 _ => Br.not (fun hb => ?_) fun hb N7 hN7 => ?_
 ·rw [if_neg (by rw [hv]; simp)] at hQ
  exact fin _ [] 0 N2 (by omega) hQ
 ·rw [if_neg (by rw [hv, hb]; decide)] at hQ
  exact fin _ [] 0 N5 (by omega) hQ
 rw [if_pos (by rw [hv, hb]; rfl)] at hQ
 have hbi := y9.1 hb
 have hok : e.ok = true := by unfold pD at hv; simp at hv; exact hv.1
 have hR := Rch.of hok hc
 refine sR e d he hG N7 _ ?_
 obtain ⟨F, rfl⟩ : ∃ F : Nat, fu = (F : Int) := ⟨fu.toNat, by omega⟩
 rw [Int.toNat_natCast] at hQ
 have rest : ∀ (m n : Nat) (k n0 : Int) (nm ot : ByteArray) (ty re : Ty) (l : List Tm) (y4 y5 y6 y7 : D) (r : List D) (q : Nat) (acc : List Int) (qa N' : Nat), M1 ≤ N' → n + m = F → acc.length = n → Rch (.mk k nm ot n0 ty re l) → Tm.Hd nm ot ty re y4 y5 y6 y7 → All2 Tm.Is l r → (∀ a c N', N ≤ N' → Own N N' (.sl a 0 (zI (acc ++ (ro m n (.mk k nm ot n0 ty re l)).2)) c) → Q a (zI (acc ++ (ro m n (.mk k nm ot n0 ty re l)).2)) c N') →
   yu E (fun x a es c N2 => M1 ≤ N2 → Bel N2 x → Bel N2 (D.sl a 0 es c) → (es.length = es.length ∧ c = c) ∧ (es.length = es.length ∧ c = c) ∧ (es.length = es.length ∧ c = c) ∧ ∀ a_1 N3, N2 ≤ N3 → Fresh N N3 a_1 [D.ag es] → ∀ N4, N3 ≤ N4 → Q a_1 es c N4) M1 (F : Nat) n (zI acc).length qa (zI acc) qa 0 0 (bytes []) (bytes []) 0 0 none [] 0 0 none [] 0 none [] 0 0 k nm ot n0 y4 y5 y6 y7 r.length q r q N' := by
  intro m
  induction m with
  | zero =>
    intro n k n0 nm ot ty re l y4 y5 y6 y7 r q acc qa N' hN' hn ha hx hH hA hq
    have hrl := hA.len
    have hgl := hx.g.2.2.1
    have hxs := hx.s
    have h1 : (ro 0 n (.mk k nm ot n0 ty re l)).2 = [] := by simp only [ro]; (repeat' split) <;> simp
    rw [h1, List.append_nil] at hq
    refine v8 _ _ _ _ _ _ _ _ _ _ _ _ _ _ _ _ _ _ _ _ _ _ _ _ _ _ _ _ _ _ _ _ _ _ _ _ _ _ _ ⟨⟨rfl, rfl⟩, ⟨rfl, rfl⟩, fun a2 N5 hN5 hf N6 hN6 => ?_⟩
    have hdx : (Tm.mk k nm ot n0 ty re l).Is (.ag [.lit (.int .i64 k), .lit (.string nm), .lit (.string ot), .lit (.int .i64 n0), y4, y5, y6, y7, .sl a2 9 r q]) := Tm.is_mk.2 ⟨_, _, _, _, _, _, _, rfl, hH, by omega, hA⟩
    refine zD4 _ _ hdx (by omega) N6 _ fun N7 hN7 _ => Br.dec (fun h4 => fin _ acc qa N7 (by omega) hq) fun h4 N8 hN8 => ?_
    have hF := hx.F (by omega)
    have hFc := hF.c
    exact w7 hdx hF.ok (by omega) N8 _ fun N9 hN9 _ => Br.of (fun hr => fin _ acc qa N9 (by omega) hq) fun hr => Br.beq (fun _ => fin _ acc qa N9 (by omega) hq) fun hne => absurd (by omega) hne
  | succ m ih =>
    intro n k n0 nm ot ty re l y4 y5 y6 y7 r q acc qa N' hN' hn ha hx hH hA hq
    have hrl := hA.len
    have hgl := hx.g.2.2.1
    have hxs := hx.s
    rw [pW] at hq
    refine v8 _ _ _ _ _ _ _ _ _ _ _ _ _ _ _ _ _ _ _ _ _ _ _ _ _ _ _ _ _ _ _ _ _ _ _ _ _ _ _ ⟨⟨rfl, rfl⟩, ⟨rfl, rfl⟩, fun a2 N5 hN5 hf N6 hN6 => ?_⟩
    have hdx : (Tm.mk k nm ot n0 ty re l).Is (.ag [.lit (.int .i64 k), .lit (.string nm), .lit (.string ot), .lit (.int .i64 n0), y4, y5, y6, y7, .sl a2 9 r q]) := Tm.is_mk.2 ⟨_, _, _, _, _, _, _, rfl, hH, by omega, hA⟩
    refine zD4 _ _ hdx (by omega) N6 _ fun N7 hN7 _ => Br.dec (fun h4 => ?_) fun h4 N8 hN8 => ?_
    ·rw [if_pos (by omega)] at hq
     simp only [List.append_nil] at hq
     exact fin _ acc qa N7 (by omega) hq
    rw [if_neg (by omega)] at hq
    have hF := hx.F (by omega)
    have hFc := hF.c
    refine w7 hdx hF.ok (by omega) N8 _ fun N9 hN9 _ => Br.of (fun hr => ?_) fun hr => Br.beq (fun hne => absurd hne (by omega)) fun _ N11 hN11 => ?_
    ·rw [if_pos hr] at hq
     simp only [List.append_nil] at hq
     exact fin _ acc qa N9 (by omega) hq
    rw [if_neg (by rw [hr]; decide)] at hq
    simp only at hq
    refine zDz _ _ _ hdx hF N11 _ fun dy N12 hN12 hy _ _ => Br.beq (fun h0 => ?_) fun h0 N13 hN13 => rn N13 _ _ _ _ _ _ fun E2 _ => ⟨⟨rfl, rfl⟩, zHu (by omega), fun c => ⟨zPh, ⟨rfl, rfl⟩, fun N14 hN14 _ _ N15 hN15 => ?_⟩⟩
    ·rw [if_pos h0] at hq
     simp only [List.append_nil] at hq
     exact fin _ acc qa N12 (by omega) hq
    ·rw [if_neg h0] at hq
     have hx2 := hx.step (by omega)
     refine sR _ _ hy hx2.g N15 _ ?_
     generalize hzz : ((Tm.mk k nm ot n0 ty re l).stp (Tm.mk k nm ot n0 ty re l).dp).1 = z at hy hx2 hq
     cases z with
     | mk k2 nm2 ot2 n2 ty2 re2 l2 =>
     intro z4 z5 z6 z7 es2 c2 N16 hN16 hh2 hes2 ho2 _ _
     rw [i64_in _ (by omega), zD2]
     have := ih (n + 1) k2 n2 nm2 ot2 ty2 re2 l2 z4 z5 z6 z7 es2 c2 (acc ++ [((Tm.mk k nm ot n0 ty re l).stp (Tm.mk k nm ot n0 ty re l).dp).2]) c N16 (by omega) (by omega) (by simp; omega) hx2 hh2 hes2 (by simpa using hq)
     simpa using this
 cases e with
 | mk k nm ot n0 ty re l =>
 intro x4 x5 x6 x7 es' c' N8 hN8 hh' hes' ho' _ _
 exact rest F 0 k n0 nm ot ty re l x4 x5 x6 x7 es' c' [] 0 N8 (by omega) (by omega) rfl hR hh' hes' hQ
end Go.Proofs.YtnpjpplbkoammaaGreatDoor
