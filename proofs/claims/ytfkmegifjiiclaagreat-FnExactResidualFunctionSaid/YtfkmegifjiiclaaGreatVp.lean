/- The program's functions that make types and contexts. -/
import Derived.Test.YtfkmegifjiiclaaGreatVo
set_option linter.unusedVariables false
set_option linter.unusedSimpArgs false
namespace Go.Proofs.YtfkmegifjiiclaaGreat
open Go Go.Proofs Go.Proofs.Tryz Go.IntWalk

theorem zDb : ∀ (t : Ty) (d : D), t.Is d → t.cnt ≤ 1073741824 → zBE 111 [.dg 2 d] t := by
 refine Ty.ind fun k l ih d hd hc N Q hQ => ?_
 obtain ⟨a, es, c, rfl, hlen, hes⟩ := Ty.is_mk.1 hd
 have hl := hes.len
 simp only [Ty.cnt] at hc
 have hlc := tE l
 refine zDQ N _ Q fun _ => ⟨_, rfl, _, _, _, rfl, ?_⟩
 have key := up hes hlen (fun i xs => ∀ (N' : Nat), N ≤ N' → (i = 0 → wV Q N a es c es.length i 0 none [] 0 k none [] 0 N') ∧ ∀ (m q : Nat) (r : List D), m = r.length → All2 Ty.Is (l.take i) r → OwnL N N' r →
  yc Q N a es c es.length i 0 none [] 0 k m q r q N') ?_ ?_
 ·exact (key N (Nat.le_refl _)).1 rfl
 ·intro i hlt hi N' hN'
  refine ⟨fun h0 => uj _ _ _ _ _ _ _ _ _ _ _ _ _ _ _ _ ?_, fun m q r hm hr ho => vD _ _ _ _ _ _ _ _ _ _ _ _ _ _ _ _ _ ?_⟩
  ·repeat' first|with_reducible intro _|simp only[hlt,Y1,Y2,Y3,Y4]|(with_reducible first|refine X1 ?_ ?_|refine X2 ?_ ?_|refine X3 ?_ ?_|refine X4 ?_ ?_|refine X5 ?_ ?_|refine X6 ?_ ?_|refine X7 ?_ ?_|refine X8 ?_ ?_|refine X9 ?_ ?_)|refine⟨_,_,_,rfl,?_⟩|refine⟨_,rfl,?_⟩|((with_reducible refine And.intro ?_ ?_);·first|omega|trivial|(show _=_;rfl)|((with_reducible refine And.intro ?_ ?_)<;>first|omega|trivial|(show _=_;rfl)))|fail
   have : l = [] := List.eq_nil_of_length_eq_zero (by omega)
   subst this
   exact hQ _ _ (by omega) (xu _) yA
  ·repeat' first|with_reducible intro _|simp only[hlt,Y1,Y2,Y3,Y4]|(with_reducible first|refine X1 ?_ ?_|refine X2 ?_ ?_|refine X3 ?_ ?_|refine X4 ?_ ?_|refine X5 ?_ ?_|refine X6 ?_ ?_|refine X7 ?_ ?_|refine X8 ?_ ?_|refine X9 ?_ ?_)|refine⟨_,_,_,rfl,?_⟩|refine⟨_,rfl,?_⟩|((with_reducible refine And.intro ?_ ?_);·first|omega|trivial|(show _=_;rfl)|((with_reducible refine And.intro ?_ ?_)<;>first|omega|trivial|(show _=_;rfl)))|fail
   rename_i a' N3 hN3 hf N4 hN4
   rw [List.take_of_length_le (by omega)] at hr
   exact hQ _ _ (by omega) (Ty.is_mk.2 ⟨_, _, _, rfl, by have := hr.len; omega, hr⟩) (wm (zE (zN ((uS ho hf (by omega)).mono (Nat.le_refl _) hN4))))
 ·intro i x xs hat _ ih2 N' hN'
  have hb := hat.b
  have hxc := xn hat.m
  refine ⟨fun h0 => uj _ _ _ _ _ _ _ _ _ _ _ _ _ _ _ _ ?_, fun m q r hm hr ho => vD _ _ _ _ _ _ _ _ _ _ _ _ _ _ _ _ _ ?_⟩
  ·repeat' first|with_reducible intro _|simp only[hat.lt, hat.w, Int.toNat_natCast,Y1,Y2,Y3,Y4]|(with_reducible first|refine X1 ?_ ?_|refine X2 ?_ ?_|refine X3 ?_ ?_|refine X4 ?_ ?_|refine X5 ?_ ?_|refine X6 ?_ ?_|refine X7 ?_ ?_|refine X8 ?_ ?_|refine X9 ?_ ?_)|refine⟨_,_,_,rfl,?_⟩|refine⟨_,rfl,?_⟩|((with_reducible refine And.intro ?_ ?_);·first|omega|trivial|(show _=_;rfl)|((with_reducible refine And.intro ?_ ?_)<;>first|omega|trivial|(show _=_;rfl)))|refine (ih x hat.m _ hat.r (by omega)) _ _ ?_|fail
   rename_i N2 hN2 d' N3 hN3 hx hox hle hbel
   subst h0
   exact ⟨by unfold zB; simp, fun c2 => (ih2 _ (by omega)).2 _ _ _ rfl (by rw [zY hat.g]; exact ⟨_, _, rfl, hx, rfl⟩) (zN (hox.mono (by omega) (Nat.le_refl _)))⟩
  ·repeat' first|with_reducible intro _|simp only[hat.lt, hat.w, Int.toNat_natCast,Y1,Y2,Y3,Y4]|(with_reducible first|refine X1 ?_ ?_|refine X2 ?_ ?_|refine X3 ?_ ?_|refine X4 ?_ ?_|refine X5 ?_ ?_|refine X6 ?_ ?_|refine X7 ?_ ?_|refine X8 ?_ ?_|refine X9 ?_ ?_)|refine⟨_,_,_,rfl,?_⟩|refine⟨_,rfl,?_⟩|((with_reducible refine And.intro ?_ ?_);·first|omega|trivial|(show _=_;rfl)|((with_reducible refine And.intro ?_ ?_)<;>first|omega|trivial|(show _=_;rfl)))|refine (ih x hat.m _ hat.r (by omega)) _ _ ?_|fail
   rename_i N2 hN2 d' N3 hN3 hx hox hle hbel
   have hrl := hr.len
   have hli : (l.take i).length = i := by rw [List.length_take]; omega
   refine ⟨by unfold zB; simp only [List.length_append, List.length_singleton]; omega, fun c2 => ?_⟩
   exact (ih2 _ (by omega)).2 _ _ _ rfl (by rw [zY hat.g]; exact hr.snoc hx) (zW (ho.mono (Nat.le_refl _) hN2) (zN hox) (by omega) hN3)
theorem zLj : zBE 201 [] tInt := fun N Q hQ => zHT N Q fun N' hN' => hQ _ _ hN' (xu _) yA
theorem zFZ : zBE 202 [] tBool := fun N Q hQ => zFn N Q fun N' hN' => hQ _ _ hN' (xu _) yA
theorem zMP (t u : Ty) (d e : D) (hd : t.Is d) (he : u.Is e) (hct : t.cnt ≤ 1073741824) (hcu : u.cnt ≤ 1073741824) : zBE 204 [.dg 2 d, .dg 2 e] (vm t u) := fun N Q hQ => by
 refine zHk N _ _ Q fun _ _ => ?_
 repeat' first|with_reducible intro _|simp only[Y1,Y2,Y3,Y4]|(with_reducible first|refine X1 ?_ ?_|refine X2 ?_ ?_|refine X3 ?_ ?_|refine X4 ?_ ?_|refine X5 ?_ ?_|refine X6 ?_ ?_|refine X7 ?_ ?_|refine X8 ?_ ?_|refine X9 ?_ ?_)|refine⟨_,_,_,rfl,?_⟩|refine⟨_,rfl,?_⟩|((with_reducible refine And.intro ?_ ?_);·first|omega|trivial|(show _=_;rfl)|((with_reducible refine And.intro ?_ ?_)<;>first|omega|trivial|(show _=_;rfl)))|refine (zDb t d hd hct) _ _ ?_|refine (zDb u e he hcu) _ _ ?_|fail
 rename_i N1 hN1 d1 N2 hN2 h1 o1 hl1 b1 N3 hN3 d2 N4 hN4 h2 o2 hl2 b2 a' N5 hN5 hf N6 hN6
 exact hQ _ _ (by omega) (Ty.is_mk.2 ⟨_, _, _, rfl, by simp, _, _, rfl, h1, _, _, rfl, h2, rfl⟩)
  (wm (zE (zN ((uS (zW ((zN o1).mono hN1 hN3) (zN o2) (by omega) hN4) hf (by omega)).mono (Nat.le_refl _) hN6))))
theorem zKB (t : Ty) (d : D) (hd : t.Is d) (hct : t.cnt ≤ 1073741824) : zBE 232 [.dg 2 d] (zBn t) := fun N Q hQ => by
 refine zFp N _ Q fun _ => ?_
 repeat' first|with_reducible intro _|simp only[Y1,Y2,Y3,Y4]|(with_reducible first|refine X1 ?_ ?_|refine X2 ?_ ?_|refine X3 ?_ ?_|refine X4 ?_ ?_|refine X5 ?_ ?_|refine X6 ?_ ?_|refine X7 ?_ ?_|refine X8 ?_ ?_|refine X9 ?_ ?_)|refine⟨_,_,_,rfl,?_⟩|refine⟨_,rfl,?_⟩|((with_reducible refine And.intro ?_ ?_);·first|omega|trivial|(show _=_;rfl)|((with_reducible refine And.intro ?_ ?_)<;>first|omega|trivial|(show _=_;rfl)))|refine (zDb t d hd hct) _ _ ?_|fail
 rename_i N1 hN1 d1 N2 hN2 h1 o1 hl1 b1 a' N5 hN5 hf N6 hN6
 exact hQ _ _ (by omega) (Ty.is_mk.2 ⟨_, _, _, rfl, by simp, _, _, rfl, h1, rfl⟩)
  (wm (zE (zN ((uS ((zN o1).mono hN1 (Nat.le_refl _)) hf (by omega)).mono (Nat.le_refl _) hN6))))
/-- the part of a code type -/
def zBG (t : Ty) : Ty := if t.k = 4 then t.as.getD 0 tZero else tZero
theorem zKJ (t : Ty) (d : D) (hd : t.Is d) (hv : t.valid = true ∨ t = tZero) : zBE 233 [.dg 2 d] (zBG t) := fun N Q hQ => by
 cases t with
 | mk k l =>
 obtain ⟨a, es, c, rfl, hlen, hes⟩ := Ty.is_mk.1 hd
 refine zFc N _ Q fun _ => ?_
 by_cases hk : k = 4
 ·subst hk
  rcases hv with hv | hv
  ·have hf := Ty.form_len hv
   have hcn := Ty.valid_cnt hv
   have hl1 : (l.length : Int) = 1 := by simpa [rr] using hf
   obtain ⟨u, rfl⟩ := zBK (l := l) (by omega)
   obtain ⟨x0, _, rfl, hx0, rfl⟩ := hes
   simp only [Ty.cnt, zH] at hcn
   have e : zBG (.mk 4 [u]) = u := rfl
   rw [e] at hQ
   repeat' first|with_reducible intro _|simp only[List.length_cons, List.length_nil,Y1,Y2,Y3,Y4]|(with_reducible first|refine X1 ?_ ?_|refine X2 ?_ ?_|refine X3 ?_ ?_|refine X4 ?_ ?_|refine X5 ?_ ?_|refine X6 ?_ ?_|refine X7 ?_ ?_|refine X8 ?_ ?_|refine X9 ?_ ?_)|refine⟨_,_,_,rfl,?_⟩|refine⟨_,rfl,?_⟩|((with_reducible refine And.intro ?_ ?_);·first|omega|trivial|(show _=_;rfl)|((with_reducible refine And.intro ?_ ?_)<;>first|omega|trivial|(show _=_;rfl)))|refine (zDb u _ hx0 (by omega)) _ _ ?_|fail
   all_goals first | (exfalso; omega) | skip
   rename_i N1 hN1 d1 N2 hN2 h1 o1 hl1 b1 N3 hN3
   exact hQ _ _ (by omega) h1 (o1.mono (by omega) (by omega))
  ·cases hv
 ·have e : zBG (.mk k l) = tZero := by unfold zBG; exact if_neg hk
  rw [e] at hQ
  repeat' first|with_reducible intro _|simp only[Y1,Y2,Y3,Y4]|(with_reducible first|refine X1 ?_ ?_|refine X2 ?_ ?_|refine X3 ?_ ?_|refine X4 ?_ ?_|refine X5 ?_ ?_|refine X6 ?_ ?_|refine X7 ?_ ?_|refine X8 ?_ ?_|refine X9 ?_ ?_)|refine⟨_,_,_,rfl,?_⟩|refine⟨_,rfl,?_⟩|((with_reducible refine And.intro ?_ ?_);·first|omega|trivial|(show _=_;rfl)|((with_reducible refine And.intro ?_ ?_)<;>first|omega|trivial|(show _=_;rfl)))|fail
  all_goals first | (exfalso; omega) | skip
  exact hQ _ _ (by omega) yo yA
def zAY (u : Ty) : List Ty → Bool
 | [] => true
 | t :: ts => uP t u && zAY u ts
def qU (s : ByteArray) : Ty := if s = bytes [61] then tInt else if s = bytes [60] then tInt else if s = bytes [38] then tBool else if s = bytes [124] then tBool else if s = bytes [33] then tBool else tInt
def zBH (s : ByteArray) : Ty := if s = bytes [61] then tBool else if s = bytes [60] then tBool else if s = bytes [38] then tBool else if s = bytes [124] then tBool else if s = bytes [33] then tBool else tInt
theorem zNp {ts : List Ty} {es : List D} (h : All2 Ty.Is ts es) (hlen : es.length ≤ 4611686018427387904) (a : Option Addr) (c : Nat) (s : ByteArray) :
  zBE 203 [.str s, .sv a 2 es c] (if zAY (qU s) ts then zBH s else tZero) := fun N Q hQ => by
 have key : ∀ (u v : Ty) (d e : D) (N0 N1 : Nat), u.Is d → v.Is e → Own N N1 e → N ≤ N1 → qU s = u → zBH s = v → zQ Q N a es c es.length (0 : Nat) 0 none [] 0 d e N1 := by
  intro u v d e N0 N1 hd he ho hN1 hu hv
  subst hu hv
  refine up h hlen (fun i xs => ∀ (N' : Nat), N1 ≤ N' → zAY (qU s) xs = zAY (qU s) ts → zQ Q N a es c es.length i 0 none [] 0 d e N') ?_ ?_ N1 (Nat.le_refl _) rfl
  ·intro i hlt _ N' hN' hk
   refine sL _ _ _ _ _ _ _ _ _ _ _ _ _ _ ?_
   rw [← hk] at hQ
   repeat' first|with_reducible intro _|simp only[hlt,Y1,Y2,Y3,Y4]|(with_reducible first|refine X1 ?_ ?_|refine X2 ?_ ?_|refine X3 ?_ ?_|refine X4 ?_ ?_|refine X5 ?_ ?_|refine X6 ?_ ?_|refine X7 ?_ ?_|refine X8 ?_ ?_|refine X9 ?_ ?_)|refine⟨_,_,_,rfl,?_⟩|refine⟨_,rfl,?_⟩|((with_reducible refine And.intro ?_ ?_);·first|omega|trivial|(show _=_;rfl)|((with_reducible refine And.intro ?_ ?_)<;>first|omega|trivial|(show _=_;rfl)))|fail
   exact hQ _ _ (by omega) he (ho.mono (Nat.le_refl _) (by omega))
  ·intro i x xs hat _ ih2 N' hN' hk
   have hb := hat.b
   refine sL _ _ _ _ _ _ _ _ _ _ _ _ _ _ ?_
   repeat' first|with_reducible intro _|simp only[hat.lt, hat.w, Int.toNat_natCast,Y1,Y2,Y3,Y4]|(with_reducible first|refine X1 ?_ ?_|refine X2 ?_ ?_|refine X3 ?_ ?_|refine X4 ?_ ?_|refine X5 ?_ ?_|refine X6 ?_ ?_|refine X7 ?_ ?_|refine X8 ?_ ?_|refine X9 ?_ ?_)|refine⟨_,_,_,rfl,?_⟩|refine⟨_,rfl,?_⟩|((with_reducible refine And.intro ?_ ?_);·first|omega|trivial|(show _=_;rfl)|((with_reducible refine And.intro ?_ ?_)<;>first|omega|trivial|(show _=_;rfl)))|refine (zV x _ _ _ hat.r hd) _ _ ?_|fail
   ·rename_i hne _ _
    rw [← hk, zAY, hne] at hQ
    exact hQ _ _ (by omega) yo yA
   ·rename_i hne
    exact ih2 _ (by omega) (by rw [← hk, zAY, hne, Bool.true_and])
 refine zGn N s a es c Q fun _ => ?_
 repeat' first|with_reducible intro _|simp only[Y1,Y2,Y3,Y4]|(with_reducible first|refine X1 ?_ ?_|refine X2 ?_ ?_|refine X3 ?_ ?_|refine X4 ?_ ?_|refine X5 ?_ ?_|refine X6 ?_ ?_|refine X7 ?_ ?_|refine X8 ?_ ?_|refine X9 ?_ ?_)|refine⟨_,_,_,rfl,?_⟩|refine⟨_,rfl,?_⟩|((with_reducible refine And.intro ?_ ?_);·first|omega|trivial|(show _=_;rfl)|((with_reducible refine And.intro ?_ ?_)<;>first|omega|trivial|(show _=_;rfl)))|refine zLj _ _ ?_|refine zFZ _ _ ?_|fail
 all_goals first
  | exact key tInt tBool _ _ 0 _ (by assumption) (by assumption) (Own.mono (by assumption) (by omega) (by omega)) (by omega) (by unfold qU; (repeat' split) <;> first | rfl | contradiction) (by unfold zBH; (repeat' split) <;> first | rfl | contradiction)
  | exact key tBool tBool _ _ 0 _ (by assumption) (by assumption) (Own.mono (by assumption) (by omega) (by omega)) (by omega) (by unfold qU; (repeat' split) <;> first | rfl | contradiction) (by unfold zBH; (repeat' split) <;> first | rfl | contradiction)
  | exact key tInt tInt _ _ 0 _ (by assumption) (by assumption) (Own.mono (by assumption) (by omega) (by omega)) (by omega) (by unfold qU; (repeat' split) <;> first | rfl | contradiction) (by unfold zBH; (repeat' split) <;> first | rfl | contradiction)
theorem zNz {f : FuncId} {rs : List Sh} {args : List PV} {N z c : Nat} {Q : QT rs} {es : List D} (hc : yr prog f = true) (hm : PV.sv none z es c ∈ args) (hne : es ≠ []) : ACalls prog f rs args N Q :=
 ⟨hc, fun av w0 _ _ hok => by
  have h := (hok _ hm).1.1
  cases h
  exact absurd rfl hne⟩
theorem zOj {g : List Tg} {es : List D} (h : Ctx g es) (hg : g.length ≤ 1073741824) (a : Option Addr) (c : Nat) (N : Nat) (Q : QT [.row 97 4]) (hQ : ∀ c' N', N ≤ N' → Q es c' N') : ACalls prog 210 [.row 97 4] [.sv a 4 es c] N Q := by
 have hl := h.all.len
 have hb0 : zB [] es 56 := by unfold zB; simp only [List.nil_append]; omega
 have main : (a = none → es = []) → ACalls prog 210 [.row 97 4] [.sv a 4 es c] N Q := fun hn => by
  refine sS N a es c Q fun _ => ?_
  repeat' first|with_reducible intro _|simp only[Y1,Y2,Y3,Y4]|(with_reducible first|refine X1 ?_ ?_|refine X2 ?_ ?_|refine X3 ?_ ?_|refine X4 ?_ ?_|refine X5 ?_ ?_|refine X6 ?_ ?_|refine X7 ?_ ?_|refine X8 ?_ ?_|refine X9 ?_ ?_)|refine⟨_,_,_,rfl,?_⟩|refine⟨_,rfl,?_⟩|((with_reducible refine And.intro ?_ ?_);·first|omega|trivial|(show _=_;rfl)|((with_reducible refine And.intro ?_ ?_)<;>first|omega|trivial|(show _=_;rfl)))|fail
  ·rename_i hi N1 hN1
   have : es = [] := hn (by simpa using hi)
   subst this
   exact hQ _ _ hN1
  ·simp only [List.nil_append]
   exact hQ _ _ (by omega)
 cases a with
 | some ad => exact main (by simp)
 | none =>
   by_cases hne : es = []
   ·exact main fun _ => hne
   ·exact zNz (z := 4) (c := c) (es := es) (by kernel_rfl) (by simp) hne
theorem wb {a : Option Addr} {z c : Nat} {es : List D} : ∀ x ∈ (D.sl a z es c).foot, x ∈ zA es ∨ ∃ ad, a = some ad ∧ x = ad.block := by
 intro x hx
 cases a with
 | none => simp only [D.foot] at hx; exact .inl hx
 | some ad =>
   simp only [D.foot] at hx
   split at hx
   ·simp at hx
   ·rcases List.mem_cons.1 hx with rfl | hx
    ·exact .inr ⟨ad, rfl, rfl⟩
    ·exact .inl hx
theorem zNA {a : Option Addr} {z c : Nat} {es : List D} : ∀ x ∈ zA es, x ∈ (D.sl a z es c).foot := by
 intro x hx
 cases a with
 | none => simpa only [D.foot] using hx
 | some ad =>
   simp only [D.foot]
   split
   ·rename_i h
    cases es with
    | nil => simp [zA] at hx
    | cons => simp at h
   ·exact List.mem_cons_of_mem _ hx
theorem zKO {g h : List Tg} {es fs : List D} (hg : Ctx g es) (hh : Ctx h fs) (hgl : g.length + h.length ≤ 1073741824) (a b : Option Addr) (c e : Nat) (N : Nat) (Q : QT [.sl 4])
  (hQ : ∀ a' es' c' N', N ≤ N' → Ctx (g ++ h) es' → (∀ x ∈ (D.sl a' 4 es' c').foot, x ∈ zA es ∨ x ∈ zA fs ∨ N ≤ x) → Q a' es' c' N') : ACalls prog 162 [.sl 4] [.sv a 4 es c, .sv b 4 fs e] N Q := by
 have hl := hg.all.len
 have hl2 := hh.all.len
 have hb : zB es fs 56 := by unfold zB; simp only [List.length_append]; omega
 refine zJY N a es c b fs e Q fun _ _ => ?_
 repeat' first|with_reducible intro _|simp only[Y1,Y2,Y3,Y4]|(with_reducible first|refine X1 ?_ ?_|refine X2 ?_ ?_|refine X3 ?_ ?_|refine X4 ?_ ?_|refine X5 ?_ ?_|refine X6 ?_ ?_|refine X7 ?_ ?_|refine X8 ?_ ?_|refine X9 ?_ ?_)|refine⟨_,_,_,rfl,?_⟩|refine⟨_,rfl,?_⟩|((with_reducible refine And.intro ?_ ?_);·first|omega|trivial|(show _=_;rfl)|((with_reducible refine And.intro ?_ ?_)<;>first|omega|trivial|(show _=_;rfl)))|refine (zOj hg (by omega) _ _) _ _ ?_|fail
 rename_i a' N3 hN3 hf N4 hN4
 refine hQ _ _ _ _ (by omega) ⟨by simp; omega, hg.all.app hh.all⟩ fun x hx => ?_
 rcases wb x hx with h1 | ⟨ad, rfl, rfl⟩
 ·rw [zC] at h1
  rcases List.mem_append.1 h1 with h1 | h1
  ·exact .inl h1
  ·exact .inr (.inl h1)
 ·have := hf.lo ad rfl
  exact .inr (.inr (by omega))
theorem zLQ {g : List Tg} {es : List D} (h : Ctx g es) (hg : g.length ≤ 1073741824) (hc : ∀ x ∈ g, x.ty.cnt ≤ 1073741824) (a : Option Addr) (c : Nat) (n : Int) :
  ∀ (N : Nat) (Q : QT [.sl 4]), (∀ a' es' c' N', N ≤ N' → Ctx (uX g n) es' → Q a' es' c' N') → ACalls prog 234 [.sl 4] [.sv a 4 es c, .int .i64 n] N Q := fun N Q hQ => by
 have hl := h.all.len
 refine zD2 N a es c n Q fun _ => ?_
 have key := up h.all h.len (fun i xs => ∀ (r : List D) (m q : Nat) (N' : Nat) (done : List Tg), N ≤ N' → m = r.length → All2 Tg.Is done r → done.length ≤ i → done ++ uf g n xs i = uX g n → zw Q N a es c n m q a es c es.length i r q N') ?_ ?_
 ·exact key [] 0 0 N [] (Nat.le_refl _) rfl rfl (Nat.le_refl _) rfl
 ·intro i hlt hi r m q N' done hN' hm hr hdl hd
  refine t8 _ _ _ _ _ _ _ _ _ _ _ _ _ _ _ _ ?_
  repeat' first|with_reducible intro _|simp only[hlt,Y1,Y2,Y3,Y4]|(with_reducible first|refine X1 ?_ ?_|refine X2 ?_ ?_|refine X3 ?_ ?_|refine X4 ?_ ?_|refine X5 ?_ ?_|refine X6 ?_ ?_|refine X7 ?_ ?_|refine X8 ?_ ?_|refine X9 ?_ ?_)|refine⟨_,_,_,rfl,?_⟩|refine⟨_,rfl,?_⟩|((with_reducible refine And.intro ?_ ?_);·first|omega|trivial|(show _=_;rfl)|((with_reducible refine And.intro ?_ ?_)<;>first|omega|trivial|(show _=_;rfl)))|fail
  refine hQ _ _ _ _ (by omega) ⟨by have := hr.len; omega, ?_⟩
  simp only [uf, List.append_nil] at hd
  rwa [← hd]
 ·intro i x xs hat _ ih2 r m q N' done hN' hm hr hdl hd
  have hb := hat.b
  have hrl := hr.len
  obtain ⟨t0, t1, he, hs, ht⟩ := hat.r
  simp only [uf] at hd
  refine t8 _ _ _ _ _ _ _ _ _ _ _ _ _ _ _ _ ?_
  repeat' first|with_reducible intro _|simp only[hat.lt, hat.w, Int.toNat_natCast, he,Y1,Y2,Y3,Y4]|(with_reducible first|refine X1 ?_ ?_|refine X2 ?_ ?_|refine X3 ?_ ?_|refine X4 ?_ ?_|refine X5 ?_ ?_|refine X6 ?_ ?_|refine X7 ?_ ?_|refine X8 ?_ ?_|refine X9 ?_ ?_)|refine⟨_,_,_,rfl,?_⟩|refine⟨_,rfl,?_⟩|((with_reducible refine And.intro ?_ ?_);·first|omega|trivial|(show _=_;rfl)|((with_reducible refine And.intro ?_ ?_)<;>first|omega|trivial|(show _=_;rfl)))|refine (tc _ _ ht) _ _ ?_|refine (zAZ h a c _) _ _ ?_|refine (zDb _ _ ht (hc x hat.m)) _ _ ?_|fail
  ·rename_i N2 hN2 x' N3 hN3 hx ho _ _
   have hin : zC9 g n x i = true := by simp [zC9, *]
   rw [if_pos hin] at hd
   refine ⟨by unfold zB; simp only [List.length_append, List.length_singleton]; omega, fun c2 => ih2 _ _ _ _ (done ++ [x]) (by omega) rfl (hr.snoc ⟨_, _, rfl, hs, Ty.is_cells hx⟩) (by simp; omega) (by simpa using hd)⟩
  all_goals (refine ih2 _ _ _ _ done (by omega) hm hr (by omega) ?_; rw [← hd, if_neg (by simp [zC9, *])])
end Go.Proofs.YtfkmegifjiiclaaGreat
