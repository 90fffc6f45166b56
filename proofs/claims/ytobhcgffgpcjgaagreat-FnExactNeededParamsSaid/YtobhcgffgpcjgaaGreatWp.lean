/- Needed parameters: lists of names; what the reference and the program find. -/
import Derived.Test.YtobhcgffgpcjgaaGreatWo
import Derived.Test.YtobhcgffgpcjgaaGreatWm
import Derived.Test.YtobhcgffgpcjgaaGreatWl
import Derived.Test.YtobhcgffgpcjgaaGreatWa
import Derived.Test.YtobhcgffgpcjgaaGreatWn
set_option linter.unusedVariables false
set_option linter.unusedSimpArgs false
namespace Go.Proofs.YtobhcgffgpcjgaaGreat
open Go Go.Proofs Go.Proofs.Tryz Go.IntWalk

theorem wordsD_get {l : List ByteArray} {i : Nat} {s : ByteArray} (h : l[i]? = some s) : (wordsD l).getD i default = .lit (.string s) := by
  simp [wordsD, List.getD_eq_getElem?_getD, List.getElem?_map, h]
theorem wordsD_foot : ∀ l : List ByteArray, footL (wordsD l) = []
  | [] => rfl
  | s :: l => by simp only [wordsD, List.map_cons, footL, D.foot, List.nil_append]; exact wordsD_foot l
theorem wordsD_flat : ∀ l : List ByteArray, flat0L (wordsD l)
  | [] => trivial
  | s :: l => ⟨trivial, wordsD_flat l⟩
theorem own_words {N N' : Nat} (l : List ByteArray) : OwnL N N' (wordsD l) := ⟨by rw [wordsD_foot]; simp, wordsD_flat l, by rw [wordsD_foot]; simp, by rw [wordsD_foot]; simp⟩
theorem words_all2 : ∀ l : List ByteArray, All2 (fun s d => d = .lit (.string s)) l (wordsD l)
  | [] => rfl
  | s :: l => ⟨_, _, rfl, rfl, words_all2 l⟩

theorem c_eqStringS (l : List ByteArray) (hl : l.length ≤ 4611686018427387904) (a b : Option Addr) (c c' : Nat) : RetB 30 [.sv a 0 (wordsD l) c, .sv b 0 (wordsD l) c'] true := fun N Q hQ => by
  have key := up (words_all2 l) (by rw [wordsD_len]; exact hl) (fun i xs => ∀ (N' : Nat), N ≤ N' → L_laws_eqStringS_4 Q N a (wordsD l) c b (wordsD l) c' i N') ?_ ?_
  · refine w_laws_eqStringS N _ _ _ _ _ _ Q fun _ _ => ?_
    repeat' (first
    | (with_reducible intro _)
    | (simp only [Bool.not_true, Bool.not_false, Br_true, Br_false])
    | (with_reducible refine Br.ndec (fun _ => ?_) (fun _ => ?_))
    | (with_reducible refine Br.nstr (fun _ => ?_) (fun _ => ?_))
    | (with_reducible refine Br.nbeq (fun _ => ?_) (fun _ => ?_))
    | (with_reducible refine Br.not (fun _ => ?_) (fun _ => ?_))
    | (with_reducible refine Br.dec (fun _ => ?_) (fun _ => ?_))
    | (with_reducible refine Br.str (fun _ => ?_) (fun _ => ?_))
    | (with_reducible refine Br.beq (fun _ => ?_) (fun _ => ?_))
    | (with_reducible refine Br.bne (fun _ => ?_) (fun _ => ?_))
    | (with_reducible refine Br.of (fun _ => ?_) (fun _ => ?_))
    | (refine ⟨_, _, _, rfl, ?_⟩)
    | (refine ⟨_, rfl, ?_⟩)
    | ((with_reducible refine And.intro ?_ ?_); · (first | omega | with_reducible rfl | trivial | assumption | (show _ = _; rfl) | ((with_reducible refine And.intro ?_ ?_) <;> (first | omega | with_reducible rfl | trivial | assumption | (show _ = _; rfl)))))
    | fail)
    · exact absurd rfl (by assumption)
    · exact key N (Nat.le_refl _)
  · intro i hlt hi N' hN'
    refine l_laws_eqStringS_4 _ _ _ _ _ _ _ _ _ _ ?_
    repeat' (first
    | (with_reducible intro _)
    | (simp only [hlt, Bool.not_true, Bool.not_false, Br_true, Br_false])
    | (with_reducible refine Br.ndec (fun _ => ?_) (fun _ => ?_))
    | (with_reducible refine Br.nstr (fun _ => ?_) (fun _ => ?_))
    | (with_reducible refine Br.nbeq (fun _ => ?_) (fun _ => ?_))
    | (with_reducible refine Br.not (fun _ => ?_) (fun _ => ?_))
    | (with_reducible refine Br.dec (fun _ => ?_) (fun _ => ?_))
    | (with_reducible refine Br.str (fun _ => ?_) (fun _ => ?_))
    | (with_reducible refine Br.beq (fun _ => ?_) (fun _ => ?_))
    | (with_reducible refine Br.bne (fun _ => ?_) (fun _ => ?_))
    | (with_reducible refine Br.of (fun _ => ?_) (fun _ => ?_))
    | (refine ⟨_, _, _, rfl, ?_⟩)
    | (refine ⟨_, rfl, ?_⟩)
    | ((with_reducible refine And.intro ?_ ?_); · (first | omega | with_reducible rfl | trivial | assumption | (show _ = _; rfl) | ((with_reducible refine And.intro ?_ ?_) <;> (first | omega | with_reducible rfl | trivial | assumption | (show _ = _; rfl)))))
    | fail)
    exact hQ _ (by omega)
  · intro i x xs hat _ ih2 N' hN'
    have hb := hat.b
    refine l_laws_eqStringS_4 _ _ _ _ _ _ _ _ _ _ ?_
    simp only [hat.lt, hat.w, Int.toNat_natCast, Br_true]
    refine ⟨⟨by omega, by omega⟩, x, hat.r, ⟨by omega, by omega⟩, x, hat.r, ?_⟩
    simp only [beq_self_eq_true, Bool.not_true, Br_false]
    exact ih2 _ hN'

/-! marks -/
def mtGo : Nat → Int → ByteArray → ByteArray
  | 0, _, s => s
  | n + 1, k, s => if k > 0 then mtGo n (IntKind.i64.wrap (Int.tdiv k 10)) (bytesOf [IntKind.u8.wrap (IntKind.i64.wrap (48 + Int.tmod k 10))] ++ s) else s
/-- the text of a mark -/
def mText (k : Int) : ByteArray := if k ≤ 0 then bytes [109, 48] else bytes [109] ++ mtGo k.toNat k (bytes [])
theorem c_markTextD (k : Int) (h0 : 0 ≤ k) (h1 : k ≤ 2305843009213693952) : ∀ (N : Nat) (Q : QT [.str]), (∀ N', N ≤ N' → Q (mText k) N') → ACalls prog 48 [.str] [.int .i64 k] N Q := fun N Q hQ => by
  have key : ∀ (n : Nat) (k : Int) (s : ByteArray) (N' : Nat), k.toNat ≤ n → 0 ≤ k → (s.size : Int) + k ≤ 2305843009213693952 → N ≤ N' → (∀ N'', N' ≤ N'' → Q (bytes [109] ++ mtGo n k s) N'') → L_laws_markText_4 Q N k s N' := by
    intro n
    induction n with
    | zero =>
      intro k s N' hn hk hs hN' hQ'
      refine l_laws_markText_4 _ _ _ _ _ (Br.dec (fun h => ?_) fun _ => ⟨by omega, fun N1 hN1 => hQ' _ (by omega)⟩)
      omega
    | succ n ih =>
      intro k s N' hn hk hs hN' hQ'
      refine l_laws_markText_4 _ _ _ _ _ (Br.dec (fun h => ?_) fun h => ⟨by omega, fun N1 hN1 => by have := hQ' N1 (by omega); rwa [mtGo, if_neg h] at this⟩)
      rw [mtGo, if_pos h] at hQ'
      have hd : Int.tdiv k 10 = k / 10 := Int.tdiv_eq_ediv_of_nonneg hk
      refine ⟨by decide, by simp, [_], rfl, ?_, by decide, ?_⟩
      · show 1 + s.size ≤ _
        omega
      · rw [hd, i64_in _ (by omega)]
        rw [hd, i64_in _ (by omega)] at hQ'
        refine ih _ _ _ (by omega) (by omega) ?_ hN' hQ'
        rw [ByteArray.size_append]
        show ((1 + s.size : Nat) : Int) + _ ≤ _
        omega
  refine w_laws_markText N k Q (Br.dec (fun h N1 hN1 => by have := hQ N1 hN1; rwa [mText, if_pos h] at this) fun h => ?_)
  rw [mText, if_neg h] at hQ
  exact key k.toNat k _ N (Nat.le_refl _) h0 (by show ((0 : Nat) : Int) + _ ≤ _; omega) (Nat.le_refl _) fun N'' h2 => hQ N'' h2
def mkW : Nat → Int → List ByteArray
  | 0, _ => []
  | n + 1, k => mText k :: mkW n (k + 1)
theorem mkW_len : ∀ (n : Nat) (k : Int), (mkW n k).length = n
  | 0, _ => rfl
  | n + 1, k => by simp [mkW, mkW_len n]
theorem c_mkWGo : ∀ (l : List ByteArray) (done : List ByteArray), (done ++ l).length ≤ 4611686018427387904 →
    ∀ (T : List Nat) (b0 N m c t : Nat) (k : Int) (R : Int → D → Nat → Prop), 0 ≤ k → k + l.length ≤ 2305843009213693952 → ∀ (q N1 : Nat), N ≤ N1 → m = (done ++ l).length →
    (∀ N', N1 ≤ N' → R (k + l.length) (.ag (wordsD (done ++ mkW l.length k))) N') → L_laws_markStringS_2_v1 T b0 R N m c k done.length t (wordsD (done ++ l)) q N1
  | [], done, hlen, T, b0, N, m, c, t, k, R, hk, hK, q, N1, hN1, hm, hR => by
    rw [List.append_nil] at *
    refine l_laws_markStringS_2_v1 _ _ _ _ _ _ _ _ _ _ _ _ (Br.dec (fun hc => by omega) fun _ => ⟨rfl, fun N3 hN3 => ?_⟩)
    have := hR N3 (by omega)
    simpa [mkW] using this
  | s :: ts, done, hlen, T, b0, N, m, c, t, k, R, hk, hK, q, N1, hN1, hm, hR => by
    have hlt : (done.length : Int) < (m : Int) := by rw [hm]; simp; omega
    have hl2 : done.length < (wordsD (done ++ s :: ts)).length := by simp [wordsD]
    simp only [List.length_cons] at hK
    refine l_laws_markStringS_2_v1 _ _ _ _ _ _ _ _ _ _ _ _ (Br.dec (fun _ => ?_) fun hc => absurd hlt hc)
    intro N2 hN2
    refine c_markTextD k hk (by omega) N2 _ fun N3 hN3 => ?_
    intro hle
    rw [i64_in (k + 1) (by omega), i64_in ((done.length : Int) + 1) (by rw [hm] at hlt; simp at hlt hlen; omega)]
    simp only [Int.toNat_natCast, Nat.zero_add]
    refine ⟨⟨by omega, hlt, hl2⟩, hl2, ?_⟩
    have hset : (wordsD (done ++ s :: ts)).set done.length (.lit (.string (mText k))) = wordsD ((done ++ [mText k]) ++ ts) := by simp [wordsD]
    rw [hset]
    have := c_mkWGo ts (done ++ [mText k]) (by simpa using hlen) T b0 N m c t (k + 1) R (by omega) (by omega) q N3 (by omega) (by rw [hm]; simp) fun N' h => by
      have := hR N' (by omega)
      simp only [List.length_cons, mkW] at this
      rw [show (k + ((ts.length + 1 : Nat) : Int)) = k + 1 + ts.length by omega] at this
      simpa using this
    simpa using this
theorem c_markStringS (l : List ByteArray) (hl : l.length ≤ 1152921504606846976) (a : Option Addr) (c : Nat) (ht : Tree (.sl a 0 (wordsD l) c)) (k : Int) (hk : 0 ≤ k) (hk2 : k ≤ 1152921504606846976) (N : Nat) (R : D → Int → Nat → Prop)
    (hR : ∀ N', N ≤ N' → R (.sl a 0 (wordsD (mkW l.length k)) c) (k + l.length) N') : MC prog 31 (.sl a 0 (wordsD l) c) k N R := by
  by_cases hne : l = []
  · subst hne
    refine mc_nil (w_laws_markStringS N a [] c k _ fun _ => l_laws_markStringS_2 _ _ _ _ _ _ _ _ (Br.of (fun hc => ?_) fun _ N2 hN2 => ?_))
    · simp at hc
    · simpa [mkW, wordsD] using hR N2 hN2
  · have hw : wordsD l ≠ [] := by simpa [wordsD] using hne
    cases a with
    | none => exact mc_none (by kernel_rfl) hw
    | some ad =>
      refine m_laws_markStringS N ad (wordsD l) c k R (fun k' x N' => N ≤ N' ∧ x = .ag (wordsD (mkW l.length k)) ∧ k' = k + l.length) ht hw (by rw [wordsD_len]; unfold maxLen; omega) (fun t => ?_) ?_
      · have := c_mkWGo l [] (by simp; omega) (D.sl (some ad) 0 (wordsD l) c).foot ad.block N (wordsD l).length c t k (fun k' x N' => N ≤ N' ∧ x = .ag (wordsD (mkW l.length k)) ∧ k' = k + l.length) hk (by omega) (wordsD l).length N (Nat.le_refl _) (by simp [wordsD]) fun N' h => ⟨h, by simp, rfl⟩
        simpa using this
      · rintro k' x N' ⟨hN', rfl, rfl⟩
        exact ⟨wordsD (mkW l.length k), rfl, by simp [wordsD_len, mkW_len], by simp [wordsD_foot], hR N' hN'⟩
theorem mkW_get : ∀ (n : Nat) (k : Int) (i : Nat), i < n → (mkW n k)[i]? = some (mText (k + i))
  | n + 1, k, 0, _ => by simp [mkW]
  | n + 1, k, i + 1, h => by
    simp only [mkW, List.getElem?_cons_succ]
    rw [mkW_get n (k + 1) i (by omega)]
    congr 2; omega
theorem c_heldStringS (n : Nat) (hn : n ≤ 1152921504606846976) (k : Int) (hk : 0 ≤ k) (hk2 : k ≤ 1152921504606846976) (a : Option Addr) (c : Nat) : RetI 32 [.sv a 0 (wordsD (mkW n k)) c, .int .i64 k] (k + n) := fun N Q hQ => by
  refine w_laws_heldStringS N a _ c k Q fun _ => ?_
  have key : ∀ (m i : Nat), i + m = n → ∀ N', N ≤ N' → L_laws_heldStringS_2 Q N a (wordsD (mkW n k)) c (k + i) i N' := by
    intro m
    induction m with
    | zero =>
      intro i hi N' hN'
      refine l_laws_heldStringS_2 _ _ _ _ _ _ _ _ (Br.dec (fun h => ?_) fun _ N1 hN1 => ?_)
      · rw [wordsD_len, mkW_len] at h; omega
      · have : i = n := by omega
        subst this
        exact hQ _ (by omega)
    | succ m ih =>
      intro i hi N' hN'
      have hg := wordsD_get (mkW_get n k i (by omega))
      have hlt : (i : Int) < ((wordsD (mkW n k)).length : Int) := by rw [wordsD_len, mkW_len]; omega
      refine l_laws_heldStringS_2 _ _ _ _ _ _ _ _ (Br.dec (fun h => ?_) fun h => absurd hlt h)
      rw [Int.toNat_natCast, hg]
      refine ⟨⟨by omega, hlt⟩, _, rfl, fun N1 hN1 => ?_⟩
      refine c_markTextD (k + i) (by omega) (by omega) N1 _ fun N2 hN2 _ => ?_
      simp only [beq_self_eq_true, Bool.not_true, Br_false]
      rw [i64_in _ (by omega), i64_in _ (by omega)]
      have := ih (i + 1) (by omega) N2 (by omega)
      simpa [Int.add_assoc] using this
  simpa using key n 0 (by omega) N (Nat.le_refl _)
end Go.Proofs.YtobhcgffgpcjgaaGreat

/- Needed parameters: what the reference and the program find. -/
set_option linter.unusedVariables false
set_option linter.unusedSimpArgs false
namespace Go.Proofs.YtobhcgffgpcjgaaGreat
open Go Go.Proofs Go.Proofs.Tryz Go.IntWalk

def cutAt {α : Type} (g : List α) (i : Nat) : List α := g.take i ++ g.drop (i + 1)
def needGo (g : List Pm) (e : Tm) : Nat → List Pm → List ByteArray
  | _, [] => []
  | i, x :: xs => if (bodyTy (cutAt g i) e).isSome then needGo g e (i + 1) xs else x.nm :: needGo g e (i + 1) xs
def needs (g : List Pm) (e : Tm) : List ByteArray := if (bodyTy g e).isSome then needGo g e 0 g else []
theorem needGo_len (g : List Pm) (e : Tm) : ∀ (xs : List Pm) (i : Nat), (needGo g e i xs).length ≤ xs.length
  | [], _ => Nat.le_refl _
  | x :: xs, i => by
    have := needGo_len g e xs (i + 1)
    simp only [needGo]
    split <;> simp <;> omega
theorem needs_len (g : List Pm) (e : Tm) : (needs g e).length ≤ g.length := by
  unfold needs
  split
  · exact needGo_len g e g 0
  · simp
theorem All2.take {α : Type} {R : α → D → Prop} : ∀ {l : List α} {es : List D} (i : Nat), All2 R l es → All2 R (l.take i) (es.take i)
  | _, _, 0, _ => rfl
  | [], es, i + 1, h => by cases h; rfl
  | x :: l, es, i + 1, h => by
    obtain ⟨d, ds, rfl, h1, h2⟩ := h
    exact ⟨d, ds.take i, rfl, h1, All2.take i h2⟩
theorem All2.drop {α : Type} {R : α → D → Prop} : ∀ {l : List α} {es : List D} (i : Nat), All2 R l es → All2 R (l.drop i) (es.drop i)
  | _, _, 0, h => h
  | [], es, i + 1, h => by cases h; rfl
  | x :: l, es, i + 1, h => by
    obtain ⟨d, ds, rfl, h1, h2⟩ := h
    exact All2.drop i h2
theorem pms_cut {g : List Pm} {es : List D} (h : Pms g es) (i : Nat) : Pms (cutAt g i) (cutAt es i) := by
  refine ⟨?_, All2.app (h.all.take i) (h.all.drop (i + 1))⟩
  have := h.len
  simp only [cutAt, List.length_append, List.length_take, List.length_drop]
  omega
theorem cut_mem {α : Type} {g : List α} {i : Nat} {x : α} (h : x ∈ cutAt g i) : x ∈ g := by
  rcases List.mem_append.1 h with h | h
  · exact List.mem_of_mem_take h
  · exact List.mem_of_mem_drop h
theorem cut_len {α : Type} (g : List α) (i : Nat) : (cutAt g i).length ≤ g.length := by
  simp only [cutAt, List.length_append, List.length_take, List.length_drop]; omega
theorem cut_rows {es : List D} (i : Nat) : ([] ++ (es.take i).drop 0) ++ (es.take es.length).drop (i + 1) = cutAt es i := by simp [cutAt]

/-- names, handed back as rows of their own -/
def RetN (f : FuncId) (args : List PV) (l : List ByteArray) : Prop := ∀ (N : Nat) (Q : QT [.sl 0]), (∀ a c N', N ≤ N' → Own N N' (.sl a 0 (wordsD l) c) → Q a (wordsD l) c N') → ACalls prog f [.sl 0] args N Q
theorem own_nilS {N N' z c : Nat} : Own N N' (.sl none z [] c) := ⟨by simp [D.foot, footL], ⟨by simp, trivial⟩, by simp [D.foot, footL], by simp [D.foot, footL]⟩

theorem c_spec_NeededParams {g : List Pm} {es : List D} (h : Pms g es) (hg : g.length ≤ 1073741824) {e : Tm} {d : D} (he : e.Is d) (hc : e.cnt ≤ 536870000) (a : Option Addr) (c : Nat) : RetN 28 [.sv a 4 es c, .dg 9 d] (needs g e) := fun N Q hQ => by
  have hl := h.all.len
  refine w_spec_NeededParams N a es c d Q fun _ _ N1 hN1 => ?_
  refine c_spec_BodyType h hg he hc a c N1 _ fun x0 N2 hN2 _ hle _ => ?_
  unfold needs at hQ
  have fin : ∀ (l : List ByteArray) (m cc : Nat) (N' : Nat), N ≤ N' → l = needs g e → m = (wordsD l).length → (m = (wordsD l).length ∧ cc = cc) ∧ (m = (wordsD l).length ∧ cc = cc) ∧ (m = (wordsD l).length ∧ cc = cc) ∧ ∀ a_1 N4, N' ≤ N4 → Fresh N N4 a_1 [D.ag (wordsD l)] → ∀ N5, N4 ≤ N5 → Q a_1 (wordsD l) cc N5 := by
    intro l m cc N' hN' hl hm
    refine ⟨⟨hm, rfl⟩, ⟨hm, rfl⟩, ⟨hm, rfl⟩, fun a1 N4 h4 hf N5 h5 => ?_⟩
    subst hl
    exact hQ _ _ _ (by omega) ((own_sl (own_words _) hf (by omega)).mono (Nat.le_refl _) h5)
  cases hb : (bodyTy g e).isSome with
  | false =>
    refine l_spec_NeededParams_4 _ _ _ _ _ _ _ _ _ _ _ _ _ ?_
    have hf := fin [] 0 0 N2 (by omega) (by unfold needs; rw [hb]; rfl) rfl
    exact Br.dec (fun _ => hf) fun _ => hf
  | true =>
    have key := up h.all h.len (fun i xs => ∀ (l : List ByteArray) (cc : Nat) (N' : Nat), N ≤ N' → l.length ≤ i → needs g e = l ++ needGo g e i xs → L_spec_NeededParams_4 Q N a es c (wordsD l).length cc true i d (wordsD l) cc N') ?_ ?_
    · exact key [] 0 N2 (by omega) (Nat.le_refl _) (by unfold needs; rw [hb]; rfl)
    · intro i hlt hi l cc N' hN' hll hn
      refine l_spec_NeededParams_4 _ _ _ _ _ _ _ _ _ _ _ _ _ ?_
      have hf := fin l _ cc N' hN' (by rw [hn]; simp [needGo]) rfl
      exact Br.dec (fun hc => absurd hc (by omega)) fun _ => hf
    · intro i x xs hat _ ih2 l cc N' hN' hll hn
      have hb2 := hat.b
      have hlen := h.len
      obtain ⟨t0, t1, hd', hnm, hty⟩ := hat.r
      refine l_spec_NeededParams_4 _ _ _ _ _ _ _ _ _ _ _ _ _ ?_
      have hti : ((es.length : Int)).toNat = es.length := Int.toNat_natCast _
      have hi1 : ((i : Int) + 1).toNat = i + 1 := by omega
      simp only [hat.lt, Br_true, i64_in ((i : Int) + 1) (by omega), Int.toNat_natCast, hti, hi1, cut_rows]
      have hcl := cut_len es i
      refine ⟨⟨by omega, by omega, by omega⟩, by simp, by unfold apBound; simp; omega, fun c0 => ⟨⟨by omega, by omega, by omega⟩, by simp, ?_, fun c1 => ⟨by simp, by simp, by simp, fun a1 N3 hN3 _ N4 hN4 => ?_⟩⟩⟩
      · unfold apBound; rw [cut_rows]; omega
      refine c_spec_BodyType (pms_cut h i) (by have := cut_len g i; omega) he hc a1 c1 N4 _ fun x1 N5 hN5 _ hle5 _ => ?_
      simp only [needGo] at hn
      cases hbi : (bodyTy (cutAt g i) e).isSome with
      | true =>
        rw [hbi, if_pos rfl] at hn
        simp only [Bool.not_true, Br_false]
        exact ih2 l cc N5 (by omega) (by omega) hn
      | false =>
        rw [hbi] at hn
        simp only [Bool.false_eq_true, if_false] at hn
        simp only [Bool.not_false, Br_true, if_true]
        refine ⟨⟨by omega, by omega⟩, x.nm, by rw [hd']; rfl, by simp, by unfold apBound; rw [List.length_append, wordsD_len]; simp only [List.length_cons, List.length_nil]; omega, fun c2 => ?_⟩
        rw [wordsD_snoc]
        exact ih2 _ _ _ (by omega) (by simp; omega) (by rw [hn]; simp)
theorem c_impl_NeededParams {g : List Pm} {es : List D} (h : Pms g es) (hg : g.length ≤ 1073741824) (hc2 : ∀ x ∈ g, x.ty.cnt ≤ 1073741824) {e : Tm} {d : D} (he : e.Is d) (hc : e.cnt ≤ 1048576000 / 2) (a : Option Addr) (c : Nat) : RetN 29 [.sv a 4 es c, .dg 9 d] (needs g e) := fun N Q hQ => by
  have hl := h.all.len
  refine w_impl_NeededParams N a es c d Q fun _ _ N1 hN1 => ?_
  refine c_impl_BodyType h hg hc2 he hc a c N1 _ fun x0 N2 hN2 _ _ hle _ => ?_
  cases hb : (bodyTy g e).isSome with
  | false =>
    simp only [Bool.not_false, Br_true]
    intro N3 hN3
    have e0 : needs g e = [] := by unfold needs; rw [hb]; rfl
    rw [e0] at hQ
    exact hQ none 0 N3 (by omega) own_nilS
  | true =>
    simp only [Bool.not_true, Br_false]
    have key := up h.all h.len (fun i xs => ∀ (l : List ByteArray) (cc : Nat) (N' : Nat), N ≤ N' → l.length ≤ i → needs g e = l ++ needGo g e i xs → L_impl_NeededParams_6 Q N a es c (wordsD l).length cc a es c es.length i d (wordsD l) cc N') ?_ ?_
    · exact key [] 0 N2 (by omega) (Nat.le_refl _) (by unfold needs; rw [hb]; rfl)
    · intro i hlt hi l cc N' hN' hll hn
      refine l_impl_NeededParams_6 _ _ _ _ _ _ _ _ _ _ _ _ _ _ _ _ ?_
      have e0 : l = needs g e := by rw [hn]; simp [needGo]
      subst e0
      refine Br.dec (fun hc => absurd hc (by omega)) fun _ => ⟨⟨rfl, rfl⟩, ⟨rfl, rfl⟩, ⟨rfl, rfl⟩, fun a1 N4 h4 hf N5 h5 => ?_⟩
      exact hQ _ _ _ (by omega) ((own_sl (own_words _) hf (by omega)).mono (Nat.le_refl _) h5)
    · intro i x xs hat _ ih2 l cc N' hN' hll hn
      have hb2 := hat.b
      have hlen := h.len
      obtain ⟨t0, t1, hd', hnm, hty⟩ := hat.r
      refine l_impl_NeededParams_6 _ _ _ _ _ _ _ _ _ _ _ _ _ _ _ _ ?_
      have hti : ((es.length : Int)).toNat = es.length := Int.toNat_natCast _
      have hi1 : ((i : Int) + 1).toNat = i + 1 := by omega
      simp only [hat.lt, Br_true, i64_in ((i : Int) + 1) (by omega), Int.toNat_natCast, hti, hi1, cut_rows]
      have hcl := cut_len es i
      refine ⟨⟨by omega, by omega⟩, ⟨by omega, by omega, by omega⟩, ⟨by omega, by omega, by omega⟩, by simp, by unfold apBound; simp; omega, fun c0 => ⟨by simp, ?_, fun c1 => ⟨by simp, by simp, by simp, fun a1 N3 hN3 _ N4 hN4 => ?_⟩⟩⟩
      · unfold apBound; rw [cut_rows]; omega
      refine c_impl_BodyType (pms_cut h i) (by have := cut_len g i; omega) (fun y hy => hc2 y (cut_mem hy)) he hc a1 c1 N4 _ fun x1 N5 hN5 _ _ hle5 _ => ?_
      simp only [needGo] at hn
      cases hbi : (bodyTy (cutAt g i) e).isSome with
      | true =>
        rw [hbi, if_pos rfl] at hn
        simp only [Bool.not_true, Br_false]
        exact ih2 l cc N5 (by omega) (by omega) hn
      | false =>
        rw [hbi] at hn
        simp only [Bool.false_eq_true, if_false] at hn
        simp only [Bool.not_false, Br_true]
        refine ⟨x.nm, by rw [hd']; rfl, by simp, by unfold apBound; rw [List.length_append, wordsD_len]; simp only [List.length_cons, List.length_nil]; omega, fun c2 => ?_⟩
        rw [wordsD_snoc]
        exact ih2 _ _ _ (by omega) (by simp; omega) (by rw [hn]; simp)
end Go.Proofs.YtobhcgffgpcjgaaGreat

/- The law FnExactNeededParams: for all data it answers true. -/
set_option linter.unusedVariables false
set_option linter.unusedSimpArgs false
namespace Go.Proofs.YtobhcgffgpcjgaaGreat
open Go Go.Proofs Go.Proofs.Tryz Go.IntWalk

theorem pmCnt_le {m : Nat} : ∀ {g : List Pm}, (∀ x ∈ g, x.ty.cnt ≤ m) → pmCnt g ≤ g.length * m
  | [], _ => by simp [pmCnt]
  | x :: g, h => by
    have h1 := pmCnt_le (g := g) fun y hy => h y (by simp [hy])
    have h2 := h x (by simp)
    simp only [pmCnt, List.length_cons, Nat.add_mul, Nat.one_mul]
    omega
theorem law_NeededParams {g : List Pm} {es : List D} {t : Tm} {d : D} (ctx : Pms g es) (he : t.Is d) (a : Option Addr) (c : Nat) (N : Nat) :
    ACalls prog 6 [.bool] [.sv a 4 es c, .dg 9 d] N (fun r _ => r = true) := by
  refine w_laws_FnExactNeededParams N a es c d _ fun hB0 hB1 N1 hN1 => ?_
  refine c_szParamS ctx a c 1048576 (by omega) (by omega) N1 _ fun r N2 hN2 hr _ => Br.dec (fun _ N3 _ => rfl) fun hneg N4 hN4 => ?_
  obtain ⟨hr0, hr1, hgl, hgc⟩ := hr.resolve_left (by omega)
  refine c_szTerm t d he r (by omega) (by omega) N4 _ fun r2 N5 hN5 hr2 _ => Br.dec (fun _ N6 _ => rfl) fun hneg2 N7 hN7 => ?_
  obtain ⟨hq0, hq1, hcn⟩ := hr2.resolve_left (by omega)
  have hcn : t.cnt ≤ 3145731 := by omega
  have hgl : g.length ≤ 1048576 := by omega
  have hgc : ∀ x ∈ g, x.ty.cnt ≤ 1048577 := fun x hx => by have := hgc x hx; omega
  have hgc2 : ∀ x ∈ g, x.ty.cnt ≤ 1073741824 := fun x hx => by have := hgc x hx; omega
  have htg : pmCnt g ≤ 1048576 * 1048577 := Nat.le_trans (pmCnt_le hgc) (Nat.mul_le_mul_right _ hgl)
  have hgl2 : g.length ≤ 1073741824 := by omega
  have hcn2 : t.cnt ≤ 1073741824 := by omega
  have hcn3 : t.cnt ≤ 1048576000 / 2 := by omega
  have hcn4 : t.cnt ≤ 536870000 := by omega
  clear hr hr2
  refine c_toParamS ctx hgl2 hgc2 a c N7 _ fun a1 es1 c1 N8 hN8 ctx1 own1 _ _ N9 hN9 => ?_
  refine c_toTerm t d he hcn2 N9 _ fun d1 N10 hN10 he1 own2 _ _ N11 hN11 => ?_
  have hnl := needs_len g t
  have hSpec := c_spec_NeededParams ctx1 hgl2 he1 hcn4 a1 c1
  have hImpl := fun (es2 : List D) (d2 : D) (ctx2 : Pms g es2) (he2 : t.Is d2) a2 c2 => c_impl_NeededParams ctx2 hgl2 hgc2 he2 hcn3 a2 c2
  generalize needs g t = o at hSpec hImpl hnl
  have hol : o.length ≤ 4611686018427387904 := by omega
  refine hSpec N11 _ fun aw cw N12 hN12 ow _ hBw N13 hN13 => ?_
  refine c_toParamS ctx hgl2 hgc2 a c N13 _ fun a2 es2 c2 N14 hN14 ctx2 own3 _ _ N15 hN15 => ?_
  refine c_toTerm t d he hcn2 N15 _ fun d2 N16 hN16 he2 own4 _ _ N17 hN17 => ?_
  refine hImpl es2 d2 ctx2 he2 a2 c2 N17 _ fun ag cg N18 hN18 own5 _ _ N19 hN19 => ?_
  refine c_eqStringS o hol ag aw cg cw N19 _ fun N20 hN20 _ => Br.of (fun h => by simp at h) fun _ N23 hN23 => ?_
  refine c_toParamS ctx hgl2 hgc2 a c N23 _ fun a3 es3 c3 N24 hN24 ctx3 _ _ _ N25 hN25 => ?_
  refine c_eqParamS ctx2 ctx3 a2 a3 c2 c3 N25 _ fun N26 hN26 _ => Br.of (fun h => by simp at h) fun _ N28 hN28 => ?_
  refine c_toTerm t d he hcn2 N28 _ fun d4 N29 hN29 he4 _ _ _ N30 hN30 => ?_
  refine c_eqTerm t d2 d4 he2 he4 N30 _ fun N31 hN31 _ => Br.of (fun h => by simp at h) fun _ => ?_
  have B0 : ∀ M, N ≤ M → Bel M (.sl a 4 es c) := fun M h => hB0.mono h
  have B1 : ∀ M, N ≤ M → Bel M d := fun M h => hB1.mono h
  have d53 := apart_hi own3 own5 (by omega)
  have d54 := apart_hi own4 own5 (by omega)
  have d34 := apart_hi own3 own4 (by omega)
  refine ⟨own3.tree, own3.low (by omega), ⟨fun x hx => ?_⟩, fun N33 hN33 => ?_⟩
  · simp only [List.mem_cons, List.not_mem_nil, or_false] at hx
    rcases hx with rfl | rfl | rfl | rfl | rfl
    · exact apart_lo own3 (B0 _ (by omega))
    · exact apart_lo own3 (hBw.mono (by omega))
    · exact d53
    · exact apart_lo own3 (B1 _ (by omega))
    · exact d34
  refine c_markParamS ctx2 a2 c2 own3.tree 1 (by omega) (by omega) N33 _ fun es5 k5 N34 hN34 hf5 hl5 hk5 hk5' _ => ?_
  refine ⟨own4.tree, own4.low (by omega), rfl, ⟨fun x hx => ?_⟩, fun N35 hN35 => ?_⟩
  · simp only [List.mem_cons, List.not_mem_nil, or_false] at hx
    rcases hx with rfl | rfl | rfl | rfl
    · exact apart_lo own4 (B0 _ (by omega))
    · exact apart_lo own4 (hBw.mono (by omega))
    · exact d54
    · exact apart_lo own4 (B1 _ (by omega))
  refine c_markTerm he2 own4.tree k5 (by omega) (by omega) N35 _ fun d6 k6 N36 hN36 hf6 hk6 hk6' _ => Br.dec (fun h => by omega) fun _ N38 hN38 => ?_
  refine c_eqStringS o hol ag aw cg cw N38 _ fun N39 hN39 _ => Br.of (fun h => by simp at h) fun _ => ?_
  refine ⟨own5.tree, own5.low (by omega), ⟨fun x hx => ?_⟩, rfl, fun N42 hN42 => ?_⟩
  · simp only [List.mem_cons, List.not_mem_nil, or_false] at hx
    rcases hx with rfl | rfl | rfl | rfl
    · exact apart_lo own5 (B0 _ (by omega))
    · exact apart_lo own5 (hBw.mono (by omega))
    · exact apart_lo own5 (B1 _ (by omega))
    · rw [hf6]; exact fun b hb hc => d54 b hc hb
  refine c_markStringS o (by omega) ag cg own5.tree 1 (by omega) (by omega) N42 _ fun N43 hN43 _ N44 hN44 => ?_
  have hheld := c_heldStringS o.length (by omega) 1 (by omega) (by omega) ag cg
  refine hheld N44 _ fun N45 hN45 _ => Br.dec (fun h => by omega) fun _ => Br.bne (fun h => absurd rfl h) fun _ N48 hN48 => ?_
  refine c_toParamS ctx hgl2 hgc2 a c N48 _ fun a5 es5 c5 N49 hN49 ctx5 _ _ _ N50 hN50 => ?_
  refine c_toTerm t d he hcn2 N50 _ fun d7 N51 hN51 he7 _ _ _ N52 hN52 => ?_
  refine hImpl es5 d7 ctx5 he7 a5 c5 N52 _ fun ah ch N53 hN53 _ _ _ N54 hN54 => ?_
  refine c_eqStringS o hol ah aw ch cw N54 _ fun N55 hN55 _ => Br.of (fun h => by simp at h) fun _ N58 hN58 => ?_
  exact hheld N58 _ fun N59 hN59 _ => Br.dec (fun h => by omega) fun _ => Br.bne (fun h => absurd rfl h) fun _ N62 hN62 => rfl
end Go.Proofs.YtobhcgffgpcjgaaGreat

/- What was read is a list of parameters. -/
set_option linter.unusedVariables false
set_option maxRecDepth 100000
namespace Go.Proofs.YtobhcgffgpcjgaaGreat
open Go Go.Proofs Go.Proofs.Tryz

theorem ez83 : ezOf prog 83 = 4 := by kernel_rfl
theorem pms_of_shp {n : Nat} {xs : List D} (h : Shp prog n 49 xs) : ∃ a es c, xs = [.sl a 4 es c] ∧ ∃ g, Pms g es := by
  obtain ⟨m, a, es, c, rfl, rfl, hl, hx⟩ := shpSlice underlying49 h
  rw [ez83]
  refine ⟨a, es, c, rfl, ?_⟩
  obtain ⟨g, hg⟩ := all2_choose (R := Pm.Is) (es := es) fun x hxm => by
    have h := hx x hxm
    · obtain ⟨m, rfl, h⟩ := shpStruct underlying83 h
      obtain ⟨a1, b1, hc, h1, a2, b2, rfl, h2, a3, b3, rfl, h3, rfl⟩ := h
      obtain ⟨nm, rfl, hnm⟩ := shpStr underlying9 h1
      obtain ⟨t0, t1, rfl, ty, hty⟩ := ty_of_shp _ _ h2
      obtain ⟨dy, rfl⟩ := shpBool underlying4 h3
      refine ⟨⟨nm, ty, dy⟩, t0, t1, ?_, hnm, hty⟩
      rw [ag_of (x := x) (n := 4) (by rw [hc]; rfl) (by decide), hc]; rfl
  exact ⟨g, hl, hg⟩
end Go.Proofs.YtobhcgffgpcjgaaGreat

/- FnExactNeededParams holds as it is stated: for every input that the statement's row admits, the call returns true and each argument reads afterwards as before. No condition of our own. -/
namespace Go.Proofs.YtobhcgffgpcjgaaGreat
open Go Go.Proofs Go.Proofs.Tryz Go.ChangeShapes Go.WideShapes Go.ChangeAt Go.RowKit

set_option maxHeartbeats 1600000 in
set_option maxRecDepth 100000 in
theorem fnExactNeededParams_lifted (os : Os) (started : os.Started) (H : Type) (enc : TypeId × Value → H) :
    ReturnsInHanded {} checked os 6 .any (Rows.fnExactNeededParamsSpec.pre6 enc prog Tryz.f6 Rows.fnExactNeededParamsRow.domain false) (Rows.fnExactNeededParamsSpec.post enc prog Tryz.f6 false true false false) := by
  refine returnsInHanded_of_change_sized (C := checked) ownKnob_none started (by kernel_rfl) func6
    (ChangeSpec.witness6 (enc := enc) (C := checked) false ⟨#[], #[.slice none 0 0, .agg #[.int .i64 0, .string ⟨#[]⟩, .string ⟨#[]⟩, .int .i64 0, .int .i64 0, .slice none 0 0, .int .i64 0, .slice none 0 0, .slice none 0 0]], []⟩ 8 (by kernel_rfl) (by kernel_rfl) (by kernel_rfl) (by kernel_rfl)) ?_
  intro W base args ds gs before hval0 hW _ hsz _
  have hval : ∀ (j : Nat) t v, Tryz.f6.params[j]? = some t → args[j]? = some v → Value.okWide prog W .any base t v := hval0
  have hW' := hW
  obtain ⟨p, q, hA0, hV, rfl, hfz, _⟩ := hW
  have hA : DataW.TrodAll enc prog W 0 (fun _ => true) true Tryz.f6.params.toList args.toList ds p := hA0
  have hsz : (DataW.weightsEach prog (Tryz.f6.params.toList ++ []) (ds ++ gs)).all (· ≤ reachBytes) = true := hsz
  rw [params6] at hA hval hsz
  obtain ⟨v0, v1, d0, d1, p0, p1, rfl, rfl, rfl, h0, h1⟩ := trodAll_two hA
  obtain ⟨rfl, rfl⟩ := trodVars_none hV
  obtain ⟨n0, aC, esC, cC, e0, hH0, k0⟩ := slice_in plain_TT (by decide) underlying49 (hval 0 49 v0 rfl rfl) h0 (weights_at hsz (j := 0) rfl rfl)
  obtain ⟨n1, xs, e1, hH1, hI1, k1⟩ := struct_in plain_TT (by decide) (by rw [ez28]; decide) (hval 1 28 v1 rfl rfl) h1 (weights_at hsz (j := 1) rfl rfl)
  rw [ez83] at e0 hH0 k0
  have c28 : prog.cellsOf 28 = 9 := by kernel_rfl
  rw [c28] at e1 hI1
  obtain ⟨a', es', c', hsl, g, ctx⟩ := pms_of_shp k0
  cases hsl
  obtain ⟨t, ht, _⟩ := tm_of_shp _ _ k1
  have hc := (law_NeededParams ctx ht aC cC W.heap.size).h (fun _ => False) W rfl (fun _ h => h.elim) (fun p hp => by
    simp only [List.mem_cons, List.not_mem_nil, or_false] at hp
    rcases hp with rfl | rfl
    · exact ⟨⟨hH0, fun _ _ => id⟩, rfl⟩
    · exact ⟨⟨⟨hH1, fun _ _ => id⟩, hI1⟩, rfl⟩)
  have hargs : ([PV.sv aC 4 esC cC, .dg 9 (.ag xs)].map (PV.val [])).toArray = #[v0, v1] := by
    simp only [List.map_cons, List.map_nil, e0, e1]
  rw [hargs] at hc
  refine hc.mono fun e W' hf => ?_
  exact post_true kids full (by rw [params6]; decide) rfl (by kernel_rfl) underlying4 rfl hW' (ret1_of hf)

theorem fnExactNeededParams_holds : Rows.FnExactNeededParamsSaid :=
  OpenClaim.holds_of_wide 6 Tryz.f6 rfl rfl rfl rfl rfl rfl rfl ⟨rfl, rfl, rfl, rfl, rfl⟩ rfl rfl rfl rfl rfl (by kernel_rfl) func6 (by kernel_rfl)
    (of_decide_eq_true (by kernel_rfl)) (by unfold Func.isWrapper; first | (rw [if_pos (by decide +kernel)]; kernel_rfl) | (rw [if_neg (by decide +kernel)]; exact ⟨rfl, rfl⟩))
    (fun os started H enc _ => fnExactNeededParams_lifted os started H enc)

#print axioms fnExactNeededParams_holds
end Go.Proofs.YtobhcgffgpcjgaaGreat
