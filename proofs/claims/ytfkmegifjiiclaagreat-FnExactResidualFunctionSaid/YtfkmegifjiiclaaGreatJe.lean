/- A call within a call is sound. -/
import Derived.Test.YtfkmegifjiiclaaGreatJd
set_option linter.unusedVariables false
set_option linter.unusedSimpArgs false
namespace Go.Proofs.YtfkmegifjiiclaaGreat
open Go

variable {av : Nat → Prop} {P : Program} {w0 w w' : World} {e0 e : Env} {pS pS' pB : List Nat} {a : Act} {st st' : St}

def tV (bs : List (Option Addr)) : List Nat := bs.filterMap fun a => a.map (·.block)

def PV.plainR : PV → Bool
 | .int .. => true
 | .bool .. => true
 | .str .. => true
 | .sv .. => true
 | .dg .. => true
 | .sb .. => true
 | .dc .. => true
 | _ => false

theorem QT.app_plain : ∀ (l : List Sh) (Q : QT l) (b : Nat) (ps : List PV) (rows : List Bx) (N : Nat), QT.app l Q b ps rows N → ∀ p ∈ ps, p.plainR = true
 | [], Q, b, ps, rows, N, h => by
   cases ps <;> cases rows <;> simp [QT.app] at h ⊢
 | s :: l, Q, b, ps, rows, N, h => by
   by_cases hs : s = .pk
   ·subst hs; exact QT.app_plain l Q b ps rows N h.2
   cases ps with
   | nil => cases s <;> first | exact absurd rfl hs | (simp [QT.app] at h; done)
   | cons p ps =>
     have key : (∃ (Q' : QT l) (b' : Nat) (rows' : List Bx), QT.app l Q' b' ps rows' N) ∧ p.plainR = true := by
      cases s <;> (try (exact absurd rfl hs)) <;> cases p <;> (try (exact h.elim)) <;> (try (simp [QT.app] at h; done)) <;> first
       | exact ⟨⟨_, _, _, h⟩, rfl⟩
       | exact ⟨⟨_, _, _, h.2⟩, rfl⟩
       | skip
      cases rows with
      | nil => simp [QT.app] at h
      | cons B rows =>
        cases B <;> first
         | exact ⟨⟨_, _, _, h.2⟩, rfl⟩
         | (simp [QT.app] at h; done)
     obtain ⟨⟨Q', b', rows', h'⟩, hp⟩ := key
     intro q hq
     rcases List.mem_cons.1 hq with rfl | hq
     ·exact hp
     ·exact QT.app_plain l Q' b' ps rows' N h' q hq

theorem zLY {cs : List PV} {ds : List D} (h : zH9 cs = some ds) {live : Nat → Prop} (hok : PV.OkL w live cs) : PV.val [] (.dg cs.length (.ag ds)) = PV.val e (.pg cs) := by
 obtain ⟨_, h2⟩ := u3 (e := e) h hok
 simp [PV.val, PV.val1, D.val, h2]

theorem wa {bx : List Bx} {v : Value} {p q : PV} (hv : ValOk av w e pB bx v p) (h : rn p = some q) : v = q.val [] ∧ (∀ live, (∀ b, live b → zX av pB e bx b) → q.Ok w live) ∧ q.refs = [] := by
 have hne : p ≠ .any := fun hc => by subst hc; simp [rn] at h
 have hv1 := hv.1.resolve_left hne
 have hok := hv.2.1
 have same : p = q → q.refs = [] → v = q.val [] ∧ (∀ live, (∀ b, live b → zX av pB e bx b) → q.Ok w live) ∧ q.refs = [] := fun hpq hr => by
  subst hpq
  refine ⟨by rw [hv1]; exact (PV.val_congr p (by rw [hr]; simp)).symm, fun live hl => PV.Ok.mono (fun _ _ _ => rfl) (Nat.le_refl _) (fun b _ => hl b) p hok, hr⟩
 cases p <;> simp [rn] at h
 case pg cs =>
  split at h
  ·rename_i ds hds
   simp at h; subst h
   simp only [PV.Ok] at hok
   refine ⟨by rw [hv1, zLY hds hok.1], fun live hl => ?_, rfl⟩
   obtain ⟨g1, _⟩ := u3 (e := e) hds hok.1
   exact ⟨(Good.ag fun d hd => (g1 d hd).1).mono (fun _ _ _ => rfl) (fun b _ => hl b), ds, rfl, vM hds, fun d hd => (g1 d hd).2⟩
  ·cases h
 all_goals (subst h; exact same rfl rfl)

theorem zDP {p : PV} (h : p.isCap = true) : p.val e = p.cv e := by
 cases p <;> simp [PV.isCap] at h <;> rfl

theorem zJi {bx : List Bx} (h : Mem av pB w e bx) {k z b : Nat} {B : Bx} {x : D} (hk : bx[k]? = some B) (hkp : k ∉ pB) (hc : zNs B = some (z, x)) :
  ∃ b c t, e.at k = some b ∧ w.heap[b]? = some (.cells c t (0, 0)) ∧ Lives pB e bx k b ∧ Good w (zX av pB e bx) x ∧ eOk z x ∧ ∀ (i : Nat) (u : D), x.cells[i]? = some u → c[i]? = some u.cv := by
 have hr := h.br k B hk hkp
 have ho := h.bo k B hk hkp
 cases B with
 | gone => cases hc
 | arr => cases hc
 | var cs =>
   obtain ⟨b, c, t, h1, h2, h3, h4⟩ := hr
   have hl : Lives pB e bx k b := ⟨hkp, h1, _, hk, by simp⟩
   have ho1 := ho.1
   refine ⟨b, c, t, h1, h2, hl, ?_⟩
   simp only [zNs] at hc
   split at hc
   ·rename_i p
    split at hc
    ·rename_i d hd
     simp at hc
     obtain ⟨rfl, rfl⟩ := hc
     obtain ⟨g1, g2, g3, g4, _⟩ := wh (e := e) hd (PV.OkL_iff.1 ho1 p (by simp))
     have hcl : d.cells = [d] := by cases d <;> simp [D.isCell] at g2 <;> rfl
     refine ⟨g1, by simpa [eOk] using g2, fun i u hu => ?_⟩
     rw [hcl] at hu
     cases i with
     | zero =>
       simp at hu; subst hu
       rcases h4 0 p rfl with h5 | h5
       ·subst h5; simp [r9] at hd
       ·rw [g3]; exact h5
     | succ i => simp at hu
    ·cases hc
   ·split at hc
    ·rename_i n ds hd hds
     simp at hc
     obtain ⟨rfl, rfl⟩ := hc
     obtain ⟨g1, g2⟩ := u3 (e := e) hds ho1
     refine ⟨Good.ag fun d hd => (g1 d hd).1, ?_, fun i u hu => ?_⟩
     ·simp only [eOk, Nat.add_one_ne_zero, if_false]
      exact ⟨ds, rfl, by rw [vM hds]; exact hd, fun d hd => (g1 d hd).2⟩
     ·simp only [D.cells] at hu
      have hlt : i < ds.length := (List.getElem?_eq_some_iff.1 hu).1
      have hlp : i < cs.length := by rw [← vM hds]; exact hlt
      have hmap : (ds.map D.cv)[i]? = (PV.cvs e cs)[i]? := by rw [g2]
      rw [List.getElem?_map, hu, PV.cvs_eq, List.getElem?_map, List.getElem?_eq_getElem hlp] at hmap
      simp only [Option.map_some, Option.some.injEq] at hmap
      rcases h4 i _ (List.getElem?_eq_getElem hlp) with h5 | h5
      ·exfalso
       have : ∀ (l : List PV) (r : List D), zH9 l = some r → PV.any ∉ l := by
        intro l
        induction l with
        | nil => intro r _; simp
        | cons q l ih =>
          intro r hr hm
          simp only [zH9] at hr
          split at hr
          ·rename_i d ds' h7 h8
           rcases List.mem_cons.1 hm with rfl | hm
           ·simp [r9] at h7
           ·exact ih _ h8 hm
          ·cases hr
       exact this cs ds hds (by rw [← h5]; exact List.getElem_mem hlp)
      ·rw [hmap]; exact h5
    ·cases hc
 | vd y n =>
   obtain ⟨b, c, t, h1, h2, h3, h4, h5⟩ := hr
   refine ⟨b, c, t, h1, h2, ⟨hkp, h1, _, hk, by simp⟩, ?_⟩
   simp only [zNs] at hc
   split at hc
   ·cases hc
   ·simp at hc
    obtain ⟨rfl, rfl⟩ := hc
    exact ⟨ho, by simpa [eOk] using h4, h5⟩

def ArgOk (av : Nat → Prop) (pB : List Nat) (w : World) (e : Env) (st : St) (bs : List (Option Addr)) (v : Value) (p q : PV) : Prop :=
 q.val [] = v ∧ (∀ live, (∀ b, live b → zX av pB e st.bx b ∧ b ∉ tV bs) → q.Ok w live) ∧ q.refs = [] ∧ (p.isCap = true → q.isCap = true)
theorem qV {a b : List (Option Addr)} : tV (a ++ b) = tV a ++ tV b := by simp [tV]
theorem ArgOk.mono {bs bs' : List (Option Addr)} {v : Value} {p q : PV} (h : ArgOk av pB w e st bs v p q) (hb : ∀ b ∈ tV bs, b ∈ tV bs') : ArgOk av pB w e st bs' v p q :=
 ⟨h.1, fun live hl => h.2.1 live fun b hlb => ⟨(hl b hlb).1, fun hc => (hl b hlb).2 (hb b hc)⟩, h.2.2⟩
def zBu (w : World) (bs : List (Option Addr)) : Prop := ∀ b ∈ tV bs, b < w.heap.size

theorem ut {bx : List Bx} {x : Option Addr} (hb : ∀ ad, x = some ad → zX av pB e bx ad.block) : ∀ {ps : List PV} {K : Prop}, (∀ p ∈ ps, ∃ v, ValOk av w e pB bx v p) → zOh x ps K → K
 | [], K, _, h => h
 | p :: ps, K, hp, h => by
   have hps := fun q hq => hp q (List.mem_cons_of_mem _ hq)
   obtain ⟨v, hv⟩ := hp p (by simp)
   have hok := hv.2.1
   cases p <;> simp only [zOh] at h
   case sv => 
    refine ut hb hps (h fun y hy ad had hm => ?_)
    rw [List.mem_singleton] at hy; subst hy
    exact hok.2 _ hm (hb ad had)
   case dg =>
    refine ut hb hps (h fun y hy ad had hm => ?_)
    rw [List.mem_singleton] at hy; subst hy
    exact hok.1.2 _ hm (hb ad had)
   all_goals exact ut hb hps h

mutual
theorem zLA (h : Mem av pB w e st.bx) {al : List PV} (hal : ∀ p ∈ al, ∃ v, ValOk av w e pB st.bx v p) : ∀ (p : PV) (v : Value) (K : PV → List (Option Addr) → Prop), ValOk av w e pB st.bx v p → zId st al p K → ∃ q bs, K q bs ∧ ArgOk av pB w e st bs v p q ∧ zBu w bs
 | .sb k z lo n c, v, K, hv, hK => by
   simp only [zId] at hK
   split at hK
   ·rename_i t z' es c' hk
    cases hd : decide (z = z' ∧ lo = 0) with
    | false => rw [hd] at hK; exact hK.elim
    | true =>
      rw [hd] at hK
      simp at hd
      obtain ⟨hz, hlo⟩ := hd
      subst hz; subst hlo
      obtain ⟨⟨rfl, rfl⟩, hK⟩ := hK
      have hkp := (hv.2.2 k (by simp [PV.refs])).1
      have hr := h.br k _ hk hkp
      have hok := h.bo k _ hk hkp
      have hv1 := hv.1.resolve_left (by simp)
      have hK1 := hK ((e.at k).map fun b => ⟨b, 0, none⟩) (fun ad had d hd hb => by
       cases hat : e.at k with
       | none => rw [hat] at had; cases had
       | some b =>
         rw [hat] at had; cases had
         exact (hok d hd).2 b hb (.inr ⟨k, hkp, hat, _, hk, by simp⟩))
      refine ⟨_, _, ut (fun ad had => ?_) hal hK1, ⟨?_, fun live hlv => ?_, rfl, fun _ => rfl⟩, fun b hb => ?_⟩
      ·cases hat : e.at k with
       | none => rw [hat] at had; cases had
       | some b =>
         rw [hat] at had; cases had
         exact .inr ⟨k, hkp, hat, _, hk, by simp⟩
      ·rw [hv1]
       cases hat : e.at k <;> simp [PV.val, PV.val1, PV.cv, hat]
      ·have hgl : ∀ x ∈ es, Good w live x := fun x hx => (hok x hx).mono (fun _ _ _ => rfl) (fun b _ hb => (hlv b hb).1)
       rcases hr with ⟨g1, g2, g3⟩ | ⟨b, cc, g1, g2, g3, g4, g5, g6, g7⟩
       ·subst g2; subst g3
        rw [g1]
        exact zB5
       ·rw [g1]
        refine ⟨.sl (fun _ => rfl) g4 g6 (fun x hx => (hgl x hx).1) (.inr ⟨cc, t, (0, 0), g2, fun i u hu => by simpa using g7 i u hu⟩), fun j hj hlj => ?_⟩
        simp only [Option.map_some, D.foot] at hj
        split at hj
        ·simp at hj
        ·rcases List.mem_cons.1 hj with rfl | hj
         ·exact (hlv _ hlj).2 (by simp [tV, g1])
         ·obtain ⟨x, hx, hjx⟩ := zI.1 hj
          exact (hgl x hx).2 j hjx hlj
      ·cases hat : e.at k with
       | none => simp [tV, hat] at hb
       | some b' =>
         simp [tV, hat] at hb; subst hb
         exact Lives.lt h ⟨hkp, hat, _, hk, by simp⟩
   ·exact hK.elim
 | .pb k z i o, v, K, hv, hK => by
   simp only [zId] at hK
   split at hK
   ·rename_i B hk
    split at hK
    ·rename_i z x hd hx
     simp at hd
     obtain ⟨rfl, rfl⟩ := hd
     have hkp := (hv.2.2 k (by simp [PV.refs])).1
     have hv1 := hv.1.resolve_left (by simp)
     obtain ⟨b, c, t, g1, g2, g3, g4, g5, g6⟩ := zJi (b := 0) h hk hkp hx
     refine ⟨_, _, ut (fun ad had => by cases had; exact .inr ⟨k, g3⟩) hal (hK ⟨b, 0, none⟩ (fun ad had d hd hb => by cases had; simp at hd; subst hd; exact g4.2 _ hb (.inr ⟨k, g3⟩))), ⟨?_, fun live hlv => ⟨?_, g5, rfl, .inr ⟨c, t, (0, 0), g2, fun i u hu => by simpa using g6 i u hu⟩, fun hl => (hlv _ hl).2 (by simp [tV]), Lives.lt h g3⟩, rfl, fun _ => rfl⟩, fun b' hb => ?_⟩
     ·rw [hv1]; simp [PV.val, PV.val1, PV.cv, g1]
     ·exact g4.mono (fun _ _ _ => rfl) fun b _ hb => (hlv b hb).1
     ·simp [tV] at hb; subst hb; exact Lives.lt h g3
    ·exact hK.elim
   ·exact hK.elim
 | .fn f caps, v, K, hv, hK => by
   simp only [zId] at hK
   split at hK
   ·rename_i hcap
    rw [List.all_eq_true] at hcap
    have hv1 := hv.1.resolve_left (by simp)
    have hok := hv.2.1
    simp only [PV.Ok, PV.OkL_iff] at hok
    obtain ⟨as, bs, h1, h2, h3, h4⟩ := qh h hal caps (caps.map (PV.cv e)) _ (by simp) (fun i p v hp hpv => by
     rw [List.getElem?_map, hp] at hpv
     simp at hpv; subst hpv
     have hm := List.mem_of_getElem? hp
     exact ⟨.inr (zDP (hcap p hm)).symm, hok p hm, fun k hk => hv.2.2 k (by simp only [PV.refs]; exact PV.refsL_mem.2 ⟨p, hm, hk⟩)⟩) hK
    have hcvs : PV.cvs [] as = PV.cvs e caps := by
     rw [PV.cvs_eq, PV.cvs_eq, ← h2]
     refine List.map_congr_left fun q hq => ?_
     obtain ⟨i, hi⟩ := List.mem_iff_getElem?.1 hq
     obtain ⟨p, hp, ho⟩ := h3 i q hi
     exact (zDP (ho.2.2.2 (hcap p (List.mem_of_getElem? hp)))).symm
    refine ⟨_, _, h1, ⟨?_, fun live hlv => ?_, ?_, fun _ => rfl⟩, h4⟩
    ·rw [hv1]
     show (PV.fn f as).cv [] = (PV.fn f caps).cv e
     simp only [PV.cv, hcvs]
    ·simp only [PV.Ok, PV.OkL_iff]
     intro q hq
     obtain ⟨i, hi⟩ := List.mem_iff_getElem?.1 hq
     obtain ⟨p, hp, ho⟩ := h3 i q hi
     exact ho.2.1 live hlv
    ·simp only [PV.refs]
     refine List.eq_nil_iff_forall_not_mem.2 fun k hk => ?_
     obtain ⟨q, hq, hkq⟩ := PV.refsL_mem.1 hk
     obtain ⟨i, hi⟩ := List.mem_iff_getElem?.1 hq
     obtain ⟨p, hp, ho⟩ := h3 i q hi
     rw [ho.2.2.1] at hkq; simp at hkq
   ·exact hK.elim
 | .any, v, K, hv, hK => by simp [zId, rn] at hK
 | .int .., v, K, hv, hK => by simp [zId, rn] at hK; exact ⟨_, _, hK, ⟨(hv.1.resolve_left (by simp)).symm, fun _ _ => trivial, rfl, fun _ => rfl⟩, by simp [zBu, tV]⟩
 | .bool .., v, K, hv, hK => by simp [zId, rn] at hK; exact ⟨_, _, hK, ⟨(hv.1.resolve_left (by simp)).symm, fun _ _ => trivial, rfl, fun _ => rfl⟩, by simp [zBu, tV]⟩
 | .str .., v, K, hv, hK => by simp [zId, rn] at hK; exact ⟨_, _, hK, ⟨(hv.1.resolve_left (by simp)).symm, fun _ _ => trivial, rfl, fun _ => rfl⟩, by simp [zBu, tV]⟩
 | .tp .., v, K, hv, hK => by simp [zId, rn] at hK
 | .d .., v, K, hv, hK => by simp [zId, rn] at hK
 | .lit x, v, K, hv, hK => by
   have hK : K (.lit x) [] := by simpa [zId, rn] using hK
   obtain ⟨g1, g2, g3⟩ := wa hv (q := .lit x) rfl
   exact ⟨_, _, hK, ⟨g1.symm, fun live hl => g2 live fun b hb => (hl b hb).1, g3, fun _ => rfl⟩, by simp [zBu, tV]⟩
 | .sv a z es c, v, K, hv, hK => by
   have hK : K (.sv a z es c) [] := by simpa [zId, rn] using hK
   obtain ⟨g1, g2, g3⟩ := wa hv (q := .sv a z es c) rfl
   exact ⟨_, _, hK, ⟨g1.symm, fun live hl => g2 live fun b hb => (hl b hb).1, g3, fun _ => rfl⟩, by simp [zBu, tV]⟩
 | .dg n x, v, K, hv, hK => by
   have hK : K (.dg n x) [] := by simpa [zId, rn] using hK
   obtain ⟨g1, g2, g3⟩ := wa hv (q := .dg n x) rfl
   exact ⟨_, _, hK, ⟨g1.symm, fun live hl => g2 live fun b hb => (hl b hb).1, g3, id⟩, by simp [zBu, tV]⟩
 | .dc x, v, K, hv, hK => by
   have hK : K (.dc x) [] := by simpa [zId, rn] using hK
   obtain ⟨g1, g2, g3⟩ := wa hv (q := .dc x) rfl
   exact ⟨_, _, hK, ⟨g1.symm, fun live hl => g2 live fun b hb => (hl b hb).1, g3, fun _ => rfl⟩, by simp [zBu, tV]⟩
 | .pd ad z x, v, K, hv, hK => by
   have hK : K (.pd ad z x) [] := by simpa [zId, rn] using hK
   obtain ⟨g1, g2, g3⟩ := wa hv (q := .pd ad z x) rfl
   exact ⟨_, _, hK, ⟨g1.symm, fun live hl => g2 live fun b hb => (hl b hb).1, g3, fun _ => rfl⟩, by simp [zBu, tV]⟩
 | .pg cs, v, K, hv, hK => by
   simp only [zId] at hK
   cases hn : rn (.pg cs) with
   | none => rw [hn] at hK; exact hK.elim
   | some q =>
     rw [hn] at hK
     obtain ⟨g1, g2, g3⟩ := wa hv hn
     exact ⟨_, _, hK, ⟨g1.symm, fun live hl => g2 live fun b hb => (hl b hb).1, g3, fun hc => by simp [PV.isCap] at hc⟩, by simp [zBu, tV]⟩
theorem qh (h : Mem av pB w e st.bx) {al : List PV} (hal : ∀ p ∈ al, ∃ v, ValOk av w e pB st.bx v p) : ∀ (ps : List PV) (vs : List Value) (K : List PV → List (Option Addr) → Prop), ps.length = vs.length → (∀ (i : Nat) (p : PV) (v : Value), ps[i]? = some p → vs[i]? = some v → ValOk av w e pB st.bx v p) → zL3 st al ps K →
  ∃ as bs, K as bs ∧ as.map (PV.val []) = vs ∧ (∀ (i : Nat) (q : PV), as[i]? = some q → ∃ p, ps[i]? = some p ∧ ArgOk av pB w e st bs (q.val []) p q) ∧ zBu w bs
 | [], vs, K, hl, _, hK => by
   cases vs with
   | nil => exact ⟨[], [], hK, rfl, by simp, by simp [zBu, tV]⟩
   | cons => simp at hl
 | p :: ps, vs, K, hl, hv, hK => by
   cases vs with
   | nil => simp at hl
   | cons v vs =>
     simp only [zL3] at hK
     obtain ⟨q, b1, h1, h2, h2b⟩ := zLA h hal p v _ (hv 0 p v rfl rfl) hK
     obtain ⟨qs, b2, h3, h4, h5, h5b⟩ := qh h hal ps vs _ (by simpa using hl) (fun i p v hp hpv => hv (i + 1) p v (by simpa using hp) (by simpa using hpv)) h1
     refine ⟨q :: qs, b1 ++ b2, h3, by simp [h2.1, h4], fun i r hr => ?_, fun b hb => ?_⟩
     ·cases i with
      | zero =>
        simp at hr; subst hr
        refine ⟨p, rfl, ?_⟩
        have := h2.mono (bs' := b1 ++ b2) fun b hb => by rw [qV]; exact List.mem_append_left _ hb
        exact ⟨rfl, this.2⟩
      | succ i =>
        obtain ⟨p', hp', ho⟩ := h5 i r (by simpa using hr)
        exact ⟨p', by simpa using hp', ho.mono fun b hb => by rw [qV]; exact List.mem_append_right _ hb⟩
     ·rw [qV] at hb
      rcases List.mem_append.1 hb with hb | hb
      ·exact h2b b hb
      ·exact h5b b hb
end

theorem zEl {p : PV} {f : FuncId} {caps : List PV} {bx : List Bx} {v : Value} (hv : ValOk av w e pB bx v p) (h : zPC p = some (f, caps)) : ValOk av w e pB bx v (.fn f caps) := by
 unfold zPC at h
 split at h
 ·cases h; exact hv
 ·rename_i g ds
  cases h
  exact zFL hv
 ·cases h

theorem zKG {bs : List (Option Addr)} {d : D} (h : Off bs d) : ∀ b ∈ tV bs, b ∉ d.foot := by
 intro b hb
 simp only [tV, List.mem_filterMap] at hb
 obtain ⟨x, hx, hxb⟩ := hb
 cases x with
 | none => simp at hxb
 | some ad => simp at hxb; subst hxb; exact h _ hx ad rfl

def PV.offB (b : Nat) : PV → Prop
 | .sv a z es c => b ∉ (D.sl a z es c).foot
 | .dg _ x => b ∉ x.foot
 | .dc x => b ∉ x.foot
 | _ => True

theorem zFF {bs : List (Option Addr)} : ∀ {ps : List PV} {K : Prop}, zN8 bs ps K → K ∧ ∀ b ∈ tV bs, ∀ p ∈ ps, p.offB b
 | [], K, h => ⟨h, by simp⟩
 | p :: ps, K, h => by
   have step : (∀ b ∈ tV bs, p.offB b) → zN8 bs ps K → K ∧ ∀ b ∈ tV bs, ∀ q ∈ p :: ps, q.offB b := fun h1 h2 => by
    obtain ⟨h3, h4⟩ := zFF h2
    refine ⟨h3, fun b hb q hq => ?_⟩
    rcases List.mem_cons.1 hq with rfl | hq
    ·exact h1 b hb
    ·exact h4 b hb q hq
   cases p <;> simp only [zN8] at h
   case sv => exact step (zKG h.1) h.2
   case dg => exact step (zKG h.1) h.2
   case dc => exact step (zKG h.1) h.2
   all_goals exact step (fun _ _ => trivial) h
theorem zE8 {bs : List (Option Addr)} : ∀ {rows : List Bx} {K : Prop}, zPE bs rows K → K ∧ ∀ b ∈ tV bs, ∀ t z es c, Bx.arr t z es c ∈ rows → b ∉ zA es
 | [], K, h => ⟨h, by simp⟩
 | B :: rows, K, h => by
   have step : (∀ b ∈ tV bs, ∀ t z es c, B = .arr t z es c → b ∉ zA es) → zPE bs rows K → K ∧ ∀ b ∈ tV bs, ∀ t z es c, Bx.arr t z es c ∈ B :: rows → b ∉ zA es := fun h1 h2 => by
    obtain ⟨h3, h4⟩ := zE8 h2
    refine ⟨h3, fun b hb t z es c hq => ?_⟩
    rcases List.mem_cons.1 hq with hq | hq
    ·exact h1 b hb t z es c hq.symm
    ·exact h4 b hb t z es c hq
   cases B <;> simp only [zPE] at h
   case arr t z es c =>
    refine step (fun b hb t' z' es' c' he => ?_) h.2
    cases he
    have := zKG h.1 b hb
    simpa [D.foot] using this
   all_goals exact step (fun _ _ t z es c he => by cases he) h
theorem zK1 {bs : List (Option Addr)} {ps : List PV} {rows : List Bx} {K : Prop} (h : zQP bs ps rows K) : K ∧ ∀ b ∈ tV bs, (∀ p ∈ ps, p.offB b) ∧ ∀ t z es c, Bx.arr t z es c ∈ rows → b ∉ zA es := by
 cases bs with
 | nil => exact ⟨h, by simp [tV]⟩
 | cons b bs =>
   simp only [zQP] at h
   obtain ⟨h1, h2⟩ := zFF h
   obtain ⟨h3, h4⟩ := zE8 h1
   exact ⟨h3, fun b hb => ⟨h2 b hb, h4 b hb⟩⟩

theorem u4 {N : Nat} : ∀ {ps : List PV} {K : Prop}, (∀ p ∈ ps, match p with | .sv a z es c => Bel N (.sl a z es c) | .dg _ x => Bel N x | _ => True) → zOL N ps K → K
 | [], K, _, h => h
 | p :: ps, K, hb, h => by
   have hp := hb p (by simp)
   have hps := fun q hq => hb q (List.mem_cons_of_mem _ hq)
   cases p <;> simp only [zOL] at h hp
   case sv => exact u4 hps (h hp)
   case dg => exact u4 hps (h hp)
   all_goals exact u4 hps h
theorem zAx {N : Nat} : ∀ {rows : List Bx} {K : Prop}, (∀ t z es c, Bx.arr t z es c ∈ rows → Bel N (.ag es)) → zPu N rows K → K
 | [], K, _, h => h
 | B :: rows, K, hb, h => by
   have hps := fun t z es c hq => hb t z es c (List.mem_cons_of_mem _ hq)
   cases B <;> simp only [zPu] at h
   case arr t z es c => exact zAx hps (h (hb t z es c (by simp)))
   all_goals exact zAx hps h

theorem zHR {f : FuncId} (h : yr P f = true) (args : Array Value) (w : World) : (callFunc f args).run P w = .ok (.enter f args) w := by
 unfold yr at h
 cases hf : P.funcs[f]? with
 | none => simp [hf] at h
 | some fn =>
   simp only [hf, Bool.and_eq_true, bne_iff_ne, ne_eq] at h
   obtain ⟨h1, h2⟩ := h
   cases hb : fn.body with
   | none => simp [hb] at h2
   | some c => simp [callFunc, hf, h1, hb]

theorem PV.shift_val1 {d : Nat} {e e' : Env} (hat : ∀ k, Env.at (e ++ e') (d + k) = e'.at k) {p : PV} (hp : p.plainR = true) : (p.shift d).val1 (e ++ e') = p.val1 e' := by
 cases p <;> simp [PV.plainR] at hp <;> simp [PV.shift, PV.val1, PV.cv, hat]

theorem PV.shift_cv {d : Nat} {e e' : Env} (hat : ∀ k, Env.at (e ++ e') (d + k) = e'.at k) {p : PV} (hp : p.plainR = true) : (p.shift d).cv (e ++ e') = p.cv e' := by
 cases p <;> simp [PV.plainR] at hp <;> simp [PV.shift, PV.cv, hat]
theorem zKz {d : Nat} {e e' : Env} (hat : ∀ k, Env.at (e ++ e') (d + k) = e'.at k) {ps : List PV} (hp : ∀ p ∈ ps, p.plainR = true) {pk : Bool} : (zIy pk (ps.map (PV.shift d))).val (e ++ e') = zNj pk e' ps := by
 cases pk with
 | true =>
   simp only [zIy, zNj, PV.val, PV.val1, PV.cvs_eq, List.map_map]
   congr 2
   exact List.map_congr_left fun p h => PV.shift_cv hat (hp p h)
 | false =>
 have key : ∀ p ∈ ps, (p.shift d).val1 (e ++ e') = p.val1 e' := fun p h => PV.shift_val1 hat (hp p h)
 have one : ∀ p, p ∈ ps → (p.shift d).val (e ++ e') = p.val1 e' := fun p h => by
  rw [← key p h]
  have := hp p h
  cases p <;> simp [PV.plainR] at this <;> rfl
 rcases ps with _ | ⟨p, _ | ⟨q, ps⟩⟩
 ·rfl
 ·exact one p (by simp)
 ·simp only [List.map_cons, zIy, zI9, PV.val, zNj, zMS]
  rw [key p (by simp), key q (by simp), List.map_map]
  congr 4
  exact List.map_congr_left fun r hr => key r (by simp [hr])

theorem zKr {d : Nat} {p : PV} (hp : p.plainR = true) : ∀ k ∈ (p.shift d).refs, ∃ j ∈ p.refs, k = d + j := by
 cases p <;> simp [PV.plainR] at hp <;> simp [PV.shift, PV.refs]

theorem zLc {pk : Bool} {ps : List PV} : ∀ k ∈ (zIy pk ps).refs, ∃ p ∈ ps, k ∈ p.refs := by
 intro k hk
 cases pk with
 | true => simp only [zIy, PV.refs] at hk; exact PV.refsL_mem.1 hk
 | false =>
 rcases ps with _ | ⟨p, _ | ⟨q, ps⟩⟩
 ·simp [zIy, zI9, PV.refs, PV.refsL] at hk
 ·exact ⟨p, by simp, hk⟩
 ·simp only [zIy, zI9, PV.refs] at hk
  exact PV.refsL_mem.1 hk

theorem zOa {live : Nat → Prop} {pk : Bool} {ps : List PV} (h : ∀ p ∈ ps, p.Ok w live) (hc : pk = true → ∀ p ∈ ps, p.isC) : (zIy pk ps).Ok w live := by
 cases pk with
 | true => simp only [zIy, PV.Ok]; exact ⟨PV.OkL_iff.2 h, hc rfl⟩
 | false =>
 rcases ps with _ | ⟨p, _ | ⟨q, ps⟩⟩
 ·simp [zIy, zI9, PV.Ok, PV.OkL]
 ·exact h p (by simp)
 ·simp only [zIy, zI9, PV.Ok]
  exact PV.OkL_iff.2 h
theorem zLw {d : Nat} {p : PV} (h : p.isC) : (p.shift d).isC := by cases p <;> exact h
theorem QT.app_pk {l : List Sh} {Q : QT l} {b : Nat} {ps : List PV} {rows : List Bx} {N : Nat} (hk : zL0 l = true) (h : QT.app l Q b ps rows N) : ∀ p ∈ ps, p.isC := by
 cases l with
 | nil => simp [zL0] at hk
 | cons s l => cases s <;> simp [zL0] at hk; exact QT.app_cells l Q b ps rows N h.1 h.2

theorem zLu {N : Nat} {bs : List (Option Addr)} {K : Prop} (h : zQF N bs K) (hb : rY N bs) : K := by
 unfold zQF at h
 split at h
 ·exact h
 ·exact h hb

/-- as told, or the argument that came back -/
def BkR (as al : List PV) (p q : PV) : Prop := q = p ∨ ∃ (j : Nat) (a : Option Addr) (z : Nat) (es : List D) (c k z' lo n c' : Nat), p = PV.dc (.sl a z es c) ∧ as[j]? = some (PV.sv a z es c) ∧ al[j]? = some (PV.sb k z' lo n c') ∧ q = PV.sb k z' lo n c'
theorem zCp {as al : List PV} : ∀ (l : List Sh) (ps : List PV) (K : List PV → Prop), bkP as al l ps K → ∃ qs : List PV, K qs ∧ qs.length = ps.length ∧ ∀ (i : Nat) (q : PV), qs[i]? = some q → ∃ p : PV, ps[i]? = some p ∧ BkR as al p q
 | [], ps, K, h => ⟨ps, h, rfl, fun i q hq => ⟨q, hq, .inl rfl⟩⟩
 | s :: l, ps, K, h => by
   have more : ∀ (p q : PV) (ps : List PV), BkR as al p q → bkP as al l ps (fun qs => K (q :: qs)) →
     ∃ qs : List PV, K qs ∧ qs.length = (p :: ps).length ∧ ∀ (i : Nat) (q : PV), qs[i]? = some q → ∃ p' : PV, (p :: ps)[i]? = some p' ∧ BkR as al p' q := fun p q ps hpq hb => by
    obtain ⟨qs, g1, g2, g3⟩ := zCp l ps _ hb
    refine ⟨q :: qs, g1, by simp [g2], fun i r hr => ?_⟩
    cases i with
    | zero => simp at hr; subst hr; exact ⟨p, rfl, hpq⟩
    | succ i => exact g3 i r (by simpa using hr)
   have nil : K [] → ∃ qs : List PV, K qs ∧ qs.length = ([] : List PV).length ∧ ∀ (i : Nat) (q : PV), qs[i]? = some q → ∃ p : PV, ([] : List PV)[i]? = some p ∧ BkR as al p q := fun h => ⟨[], h, rfl, by simp⟩
   cases s with
   | pk => exact zCp l ps K h
   | bk j =>
     cases ps with
     | nil => exact nil h
     | cons p ps =>
       simp only [bkP] at h
       split at h
       ·rename_i x a z es c k z' lo n c' h1 h2
        exact more _ _ ps (.inr ⟨j, a, z, es, c, k, z', lo, n, c', by rw [h.1], h1, h2, rfl⟩) h.2
       ·exact more _ _ ps (.inl rfl) h
   | _ =>
     cases ps with
     | nil => exact nil h
     | cons p ps => exact more p p ps (.inl rfl) h
theorem zNf {E : Env} {pk : Bool} {ps qs : List PV} (hl : qs.length = ps.length) (h : ∀ (i : Nat) (q p : PV), qs[i]? = some q → ps[i]? = some p → q.cv E = p.cv E ∧ q.val1 E = p.val1 E ∧ q.val E = p.val E) : (zIy pk qs).val E = (zIy pk ps).val E := by
 have hm : ∀ (F : PV → Value), (∀ (i : Nat) (q p : PV), qs[i]? = some q → ps[i]? = some p → F q = F p) → qs.map F = ps.map F := fun F hF => by
  apply List.ext_getElem?
  intro i
  rw [List.getElem?_map, List.getElem?_map]
  by_cases hi : i < ps.length
  ·rw [List.getElem?_eq_getElem hi, List.getElem?_eq_getElem (by omega : i < qs.length)]
   simp only [Option.map_some, Option.some.injEq]
   exact hF i _ _ (List.getElem?_eq_getElem _) (List.getElem?_eq_getElem _)
  ·rw [List.getElem?_eq_none (by omega), List.getElem?_eq_none (by omega)]
 cases pk with
 | true =>
   simp only [zIy, PV.val, PV.val1, PV.cvs_eq]
   rw [hm _ fun i q p hq hp => (h i q p hq hp).1]
 | false =>
   have h1 := hm _ fun i q p hq hp => (h i q p hq hp).2.1
   rcases ps with _ | ⟨p, _ | ⟨p2, ps⟩⟩ <;> rcases qs with _ | ⟨q, _ | ⟨q2, qs⟩⟩ <;> simp at hl
   ·rfl
   ·exact (h 0 q p rfl rfl).2.2
   ·simp only [zIy, zI9, PV.val]
    rw [h1]
theorem zJJ (h : Rel av w0 e0 pS pB a w e st) (hpl : ∀ k ∈ pB, k < st.bx.length) {sh : FuncId → List Sh} {o : Oper} {c : Call} {x : Operand} {args : List PV} {K : St → Prop} (ho : o.op = .call c) (hc : c.callee = .value x)
  (hx : ∀ t, x = .tmp t → t ∉ pS) (ha : args.length = c.args.size) (hav : ∀ (i : Nat) (p : PV) (y : Operand), args[i]? = some p → c.args[i]? = some y → ValOk av w e pB st.bx (a.eval y) p)
  (hps : ∀ i, i ∈ pS → some i ≠ o.dst → i ∈ pS') (hs : zOf P sh st o.dst x args K) {next : Act → World → Prop} {Q : Exit → Act → World → Prop}
  (hn : ∀ v w' e' st', K st' → (∃ rows p N, st' = St.put { st with bx := st.bx ++ rows, N := N } o.dst p) → Rel av w0 e0 pS' pB (a.put o.dst v) w' e' st' → next (a.put o.dst v) w') : o.wp P a w next Q := by
 have ox := w9 h hx
 unfold zOf at hs
 split at hs
 rotate_left
 ·exact hs.elim
 rename_i f caps hf
 split at hs
 rotate_left
 ·exact hs.elim
 rename_i hcapall
 rw [List.all_eq_true] at hcapall
 have ox := zEl ox.valOk hf
 have hxv := ox.1.resolve_left (by simp)
 have hcv : a.eval x = .func (.func f) #[] (PV.cvs e caps).toArray := hxv
 have hcok : PV.OkL w (zX av pB e st.bx) caps := by have := ox.2.1; simpa only [PV.Ok] using this
 rw [PV.OkL_iff] at hcok
 have hcrf : ∀ p ∈ caps, ∀ k ∈ p.refs, k ∉ pB ∧ k < st.bx.length := fun p hp k hk => ox.2.2 k (by simp only [PV.refs]; exact PV.refsL_mem.2 ⟨p, hp, hk⟩)
 have hcap : ∀ (i : Nat) (p : PV) (v : Value), (args ++ caps)[i]? = some p → (c.args.toList.map a.eval ++ caps.map (PV.cv e))[i]? = some v → ValOk av w e pB st.bx v p := by
  intro i p v h1 h2
  by_cases hi : i < args.length
  ·rw [List.getElem?_append_left hi] at h1
   have hi2 : i < c.args.toList.length := by simp; omega
   rw [List.getElem?_append_left (by simpa using hi2), List.getElem?_map, List.getElem?_eq_getElem hi2] at h2
   simp at h2
   subst h2
   exact hav i p _ h1 (by rw [Array.getElem?_eq_getElem (by omega)])
  ·rw [List.getElem?_append_right (by omega)] at h1
   rw [List.getElem?_append_right (by simp; omega), List.getElem?_map] at h2
   have hidx : i - (c.args.toList.map a.eval).length = i - args.length := by simp; omega
   rw [hidx, h1] at h2
   simp at h2
   subst h2
   have hm := List.mem_of_getElem? h1
   exact ⟨.inr (zDP (hcapall p hm)).symm, hcok p hm, hcrf p hm⟩
 have hln : (args ++ caps).length = (c.args.toList.map a.eval ++ caps.map (PV.cv e)).length := by simp; omega
 have hal : ∀ p ∈ args ++ caps, ∃ v, ValOk av w e pB st.bx v p := fun p hp => by
  obtain ⟨i, hi⟩ := List.mem_iff_getElem?.1 hp
  have hlt := (List.getElem?_eq_some_iff.1 hi).1
  exact ⟨_, hcap i p _ hi (List.getElem?_eq_getElem (by rw [← hln]; exact hlt))⟩
 have hal2 := hal
 obtain ⟨as, bs, hK, has, hq, hbel⟩ := qh h.toMem hal (args ++ caps) (c.args.toList.map a.eval ++ caps.map (PV.cv e)) _ (by simp; omega) hcap hs
 obtain ⟨hcl, hA⟩ := zLu (hK w.heap.size h.hN) fun b hb ad had => hbel ad.block (by simp only [tV, List.mem_filterMap]; exact ⟨b, hb, by simp [had]⟩)
 have hlt : ∀ b, zX av pB e st.bx b → b < w.heap.size := fun b hb => hb.elim (fun hb => by have := h.avl b hb; have := h.size; omega) fun ⟨k, hk⟩ => Lives.lt h.toMem hk
 have hC := hA (fun b => zX av pB e st.bx b ∧ b ∉ tV bs) w rfl (fun b hb => hlt b hb.1) fun p hp => by
  obtain ⟨i, hi⟩ := List.mem_iff_getElem?.1 hp
  obtain ⟨p', _, ho⟩ := hq i p hi
  exact ⟨ho.2.1 _ fun b hb => hb, ho.2.2.1⟩
 have hrun : (execOp a.eval o).run P w = .ok (.enter f (as.map (PV.val [])).toArray) w := by
  have e1 : (as.map (PV.val [])).toArray = c.args.map a.eval ++ (PV.cvs e caps).toArray := by
   rw [has, PV.cvs_eq]
   apply Array.toList_inj.1
   simp
  rw [e1]
  obtain ⟨dst, op, ty, pos, after, guard⟩ := o
  simp only at ho
  subst ho
  simp only [execOp, resolve, hc, Deferred.ofValue, hcv, invoke]
  simp [zHR hcl]
 unfold Oper.wp
 rw [hrun, Oper.upon_enter]
 refine hC.mono fun en w' hen => ?_
 cases en with
 | panicked => exact hen.elim
 | outgrown => exact hen.elim
 | returned v =>
   obtain ⟨ps, rows, e', hd⟩ := hen
   have happ := QT.app_lam (sh f) st.bx.length 0 _ ps rows _ hd.q
   have hplain := QT.app_plain _ _ _ _ _ _ hd.q
   obtain ⟨harr, hrfs⟩ := QT.app_rows _ _ _ _ _ _ hd.q
   obtain ⟨qs, hqs, hql, hqp⟩ := zCp _ _ _ (happ hd.size)
   obtain ⟨hB, hoff⟩ := zK1 hqs
   have hmap : ∀ (P : PV → Prop), (∀ p ∈ ps, P (p.shift st.bx.length)) → ∀ q ∈ ps.map (PV.shift st.bx.length), P q := fun P hP q hq => by
    obtain ⟨p, hp, rfl⟩ := List.mem_map.1 hq; exact hP p hp
   have hqq : ∀ q ∈ qs, (∃ p ∈ ps, q = p.shift st.bx.length) ∨ ∃ k z' lo n c', q = .sb k z' lo n c' ∧ k ∉ pB ∧ k < st.bx.length := fun q hq => by
    obtain ⟨i, hi⟩ := List.mem_iff_getElem?.1 hq
    obtain ⟨p', hp', h2⟩ := hqp i q hi
    rcases h2 with rfl | ⟨j, a, z, es, c, k, z', lo, n, c', _, _, hal, rfl⟩
    ·obtain ⟨p, hp, rfl⟩ := List.mem_map.1 (List.mem_of_getElem? hp')
     exact .inl ⟨p, hp, rfl⟩
    ·obtain ⟨v, hv⟩ := hal2 _ (List.mem_of_getElem? hal)
     exact .inr ⟨k, z', lo, n, c', rfl, hv.2.2 k (by simp [PV.refs])⟩
   have hbel := u4 (N := w'.heap.size) (fun q hq => by
    rcases hqq q hq with ⟨p, hp, rfl⟩ | ⟨k, z', lo, n, c', rfl, _⟩
    ·have hpl := hplain p hp
     have hok := hd.ok p hp
     cases p <;> simp only [PV.shift] <;> simp only [PV.Ok] at hok
     ·exact hok.1.lt
     ·exact hok.1.1.lt
    ·trivial) hB
   have hbel2 := zAx (N := w'.heap.size) (fun t z es cc hm b hb => by
    obtain ⟨i, hi⟩ := List.mem_iff_getElem?.1 hm
    have := hd.m.bo i _ hi (by simp)
    simp only [D.foot] at hb
    obtain ⟨y, hy, hby⟩ := zI.1 hb
    exact (this y hy).1.lt b hby) hbel
   have hav' : ∀ b, zX av pB e st.bx b → (zX av pB e st.bx b ∧ b ∉ tV bs) ∨ b ∈ tV bs := fun b hb => by
    by_cases hbb : b ∈ tV bs
    ·exact .inr hbb
    ·exact .inl ⟨hb, hbb⟩
   obtain ⟨hR, hgood⟩ := zOZ h hpl hav' hd.size hd.old hd.m harr hd.fresh (fun t z es cc hm b hb => (hoff b hb).2 t z es cc hm) hd.fz hd.ku
   have hat2 : ∀ k, Env.at (e ++ e') (st.bx.length + k) = e'.at k := fun k => by
    rw [Env.at_app, if_neg (by rw [h.el]; omega)]
    congr 1; rw [h.el]; omega
   refine hn v w' (e ++ e') _ hbel2 ⟨rows, _, _, rfl⟩ (wt hR ⟨.inr ?_, ?_, ?_⟩ hps)
   ·rw [hd.v, ← zKz hat2 hplain]
    refine (zNf hql fun i q p' hqi hpi => ?_).symm
    obtain ⟨p'', hp'', h2⟩ := hqp i q hqi
    rw [hpi] at hp''; cases hp''
    rcases h2 with rfl | ⟨j, a0, z, es, c0, k, z', lo, n, c', rfl, has2, hal3, rfl⟩
    ·exact ⟨rfl, rfl, rfl⟩
    ·have hvj : ∃ vj, (c.args.toList.map a.eval ++ caps.map (PV.cv e))[j]? = some vj := ⟨_, List.getElem?_eq_getElem (by rw [← hln]; exact (List.getElem?_eq_some_iff.1 hal3).1)⟩
     obtain ⟨vj, hvj⟩ := hvj
     have hvo := hcap j _ _ hal3 hvj
     have hva : vj = (PV.sv a0 z es c0).val [] := by
      have h5 := congrArg (fun l => l[j]?) has
      simp only [List.getElem?_map, has2, Option.map_some] at h5
      rw [hvj] at h5
      exact (Option.some.inj h5).symm
     have hlt := (hvo.2.2 k (by simp [PV.refs])).2
     have hat0 : Env.at (e ++ e') k = e.at k := by rw [Env.at_app, if_pos (by rw [h.el]; exact hlt)]
     have hvs := hvo.1.resolve_left (by simp)
     have e2 : (PV.sb k z' lo n c').cv (e ++ e') = (PV.sb k z' lo n c').cv e := by simp only [PV.cv, hat0]
     have e3 : (PV.sb k z' lo n c').cv e = (D.sl a0 z es c0).cv := by
      have h6 : (PV.sb k z' lo n c').val e = (PV.sv a0 z es c0).val [] := by rw [← hvs, hva]
      exact h6
     exact ⟨e2.trans e3, e2.trans e3, e2.trans e3⟩
   ·refine zOa (fun q hq => ?_) (fun hpk q hq => ?_)
    ·rcases hqq q hq with ⟨p, hp, rfl⟩ | ⟨k, z', lo, n, c', rfl, _⟩
     ·have hpl' := hplain p hp
      have hok := hd.ok p hp
      have hofb : ∀ b ∈ tV bs, (p.shift st.bx.length).offB b := fun b hb => (hoff b hb).1 _ hq
      cases p <;> simp [PV.plainR] at hpl' <;> simp only [PV.shift, PV.Ok, PV.offB] at hok hofb ⊢
      ·exact hgood _ hok hofb
      ·exact ⟨hgood _ hok.1 hofb, hok.2⟩
      ·exact ⟨hgood _ hok.1 hofb, hok.2⟩
     ·trivial
    ·rcases hqq q hq with ⟨p, hp, rfl⟩ | ⟨k, z', lo, n, c', rfl, _⟩
     ·exact zLw (QT.app_pk hpk hd.q p hp)
     ·trivial
   ·intro k hk
    obtain ⟨q, hq1, hq2⟩ := zLc k hk
    rcases hqq q hq1 with ⟨p, hp, rfl⟩ | ⟨k', z', lo, n, c', rfl, h1, h2⟩
    ·obtain ⟨j, hj, rfl⟩ := zKr (hplain p hp) k hq2
     have hj2 := (hrfs p hp).2.2 j hj
     refine ⟨fun hc => by have := hpl _ hc; omega, by simp; omega⟩
    ·simp [PV.refs] at hq2; subst hq2
     exact ⟨h1, by simp; omega⟩

end Go.Proofs.YtfkmegifjiiclaaGreat

/- Calls that may write boxes of the caller's. -/
set_option linter.unusedVariables false
set_option linter.unusedSimpArgs false
namespace Go.Proofs.YtfkmegifjiiclaaGreat
open Go

variable {av : Nat → Prop} {P : Program} {w0 w w' : World} {e0 e : Env} {pS pS' pB pB' : List Nat} {a : Act} {st st' : St}

/-! what boxes hold, apart from their form -/

def zQG : PV → Option Sh
 | .int k _ => some (.int k)
 | .bool _ => some .bool
 | .str _ => some .str
 | .sv _ z _ _ => some (.sl z)
 | _ => none
/-- a box's cells told anew; what is left -/
def zPD : List PV → List PV → List PV × List PV
 | [], es => ([], es)
 | p :: ps, es => match zQG p with
   | some _ => match es with
     | q :: es => (q :: (zPD ps es).1, (zPD ps es).2)
     | [] => ([], [])
   | none => (p :: (zPD ps es).1, (zPD ps es).2)
def zQm : Bx → List PV → Bx × List PV
 | .var cs, es => (.var (zPD cs es).1, (zPD cs es).2)
 | .vd y n, es => match es with
   | .dg _ x :: es => (.vd x n, es)
   | _ => (.vd y n, [])
 | .arr t z y n, es => match es with
   | .sv _ _ ds c :: es => (.arr t z ds c, es)
   | _ => (.arr t z y n, [])
 | .gone, es => (.gone, es)
def zQJ : List Bx → List PV → List Bx
 | [], _ => []
 | B :: bs, es => (zQm B es).1 :: zQJ bs (zQm B es).2
/-- slices of the boxes' rows have the rows' lengths -/
def zQy (bs : List Bx) : PV → PV
 | .sb k z lo n c => match bs[k]? with
   | some (.arr _ _ es c') => .sb k z lo es.length c'
   | _ => .any
 | p => p
def zQz (bs : List Bx) : Bx → Bx
 | .var cs => .var (cs.map (zQy bs))
 | B => B
def zQj (bx : List Bx) (es : List PV) : List Bx := (zQJ bx es).map (zQz (zQJ bx es))

def zQ4 (N : Nat) (p : PV) : Prop := match p with | .sv a z es c => Bel N (.sl a z es c) | .dg _ x => Bel N x | _ => True
/-- a function's contract, where it may write the boxes that it is handed: how it ends -/
structure DoneB (zLN : List Sh) (Q : QT zLN) (av : Nat → Prop) (w0 : World) (E : Env) (bx : List Bx) (v : Value) (w : World) (ps es : List PV) (rows : List Bx) (e : Env) : Prop where
 q : QT.app zLN Q bx.length (ps ++ es) rows w.heap.size
 v : v = zNj false e ps
 m : Mem av [] w e (zQj bx es ++ rows)
 ok : ∀ p ∈ ps, p.Ok w (zX av [] e (zQj bx es ++ rows))
 fix : ∀ (k : Nat) (B : Bx), bx[k]? = some B → B.isArr = false → e.at k = some ((E.at k).getD 0)
 fresh : ∀ (k b : Nat), e.at k = some b → w0.heap.size ≤ b ∨ (k < bx.length ∧ some b ∈ E)
 size : w0.heap.size ≤ w.heap.size
 old : ∀ b, b < w0.heap.size → some b ∉ E → w.heap[b]? = w0.heap[b]?
 fz : ∀ (b : Nat) (c : Array Value) (t : TypeId) (z : Nat × Nat), (w0.heap.size ≤ b ∨ some b ∈ E) → w.heap[b]? = some (.cells c t z) → z = (0, 0)
 ku : KU w0 w
 ns : ∀ p ∈ es, p.refs = []
 be : ∀ p ∈ es, zQ4 w.heap.size p
def zQ3 (zLN : List Sh) (Q : QT zLN) (nr : Nat) (av : Nat → Prop) (w0 : World) (E : Env) (bx : List Bx) : Ending → World → Prop
 | .returned v, w => ∃ ps es rows e, ps.length = nr ∧ DoneB zLN Q av w0 E bx v w ps es rows e
 | _, _ => False
def zQp (P : Program) (f : FuncId) : Nat := match P.funcs[f]? with
 | some fn => fn.resultTypes.size
 | none => 0
/-- the boxes without what they hold -/
def zPp : PV → PV
 | .int k _ => .int k 0
 | .bool _ => .bool false
 | .str _ => .str ⟨#[]⟩
 | .sv _ z _ _ => .sv none z [] 0
 | .sb k z lo _ _ => .sb k z lo 0 0
 | p => p
def zPd : Bx → Bx
 | .var cs => .var (cs.map zPp)
 | .vd _ n => .vd default n
 | .arr t z _ _ => .arr t z [] 0
 | .gone => .gone
structure BCalls (P : Program) (f : FuncId) (zLN : List Sh) (args : List PV) (bx : List Bx) (N : Nat) (Q : QT zLN) : Prop where
 c : yr P f = true
 h : ∀ (av : Nat → Prop) (w0 : World) (E : Env), w0.heap.size = N → (∀ b, av b → b < N) → Mem av [] w0 E bx → (∀ k b, Lives [] E bx k b → ¬ av b) →
   (∀ p ∈ args, p.Ok w0 (zX av [] E bx) ∧ ∀ k ∈ p.refs, k < bx.length) → Calls P f (args.map (PV.val E)).toArray w0 (zQ3 zLN Q (zQp P f) av w0 E (bx.map zPd))

/-! boxes picked out of the caller's -/

/-! back in the caller's numbers -/

end Go.Proofs.YtfkmegifjiiclaaGreat

/- Calls that may write boxes of the caller's: the caller's side. -/
set_option linter.unusedVariables false
set_option linter.unusedSimpArgs false
namespace Go.Proofs.YtfkmegifjiiclaaGreat
open Go

variable {av : Nat → Prop} {P : Program} {w0 w w' : World} {e0 e : Env} {pS pS' pB pB' : List Nat} {a : Act} {st st' : St}

/-! the boxes told anew -/

end Go.Proofs.YtfkmegifjiiclaaGreat
