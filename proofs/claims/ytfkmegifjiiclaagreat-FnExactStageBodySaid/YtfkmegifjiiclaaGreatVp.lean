/- The program's functions that make types and contexts. -/
import Derived.Test.YtfkmegifjiiclaaGreatVo
set_option linter.unusedVariables false
set_option linter.unusedSimpArgs false
namespace Go.Proofs.YtfkmegifjiiclaaGreat
open Go Go.Proofs Go.Proofs.Tryz Go.IntWalk

theorem c_own : ∀ (t : Ty) (d : D), t.Is d → t.cnt ≤ 1073741824 → RetT 111 [.dg 2 d] t := by
 refine Ty.ind fun k l ih d hd hc N Q hQ => ?_
 obtain ⟨a, es, c, rfl, hlen, hes⟩ := Ty.is_mk.1 hd
 have hl := hes.len
 simp only [Ty.cnt] at hc
 have hlc := tys_len_cnt l
 refine w_impl_Type_own N _ Q fun _ => ⟨_, rfl, _, _, _, rfl, ?_⟩
 have key := up hes hlen (fun i xs => ∀ (N' : Nat), N ≤ N' → (i = 0 → L_impl_Type_own_3 Q N a es c es.length i 0 none [] 0 k none [] 0 N') ∧ ∀ (m q : Nat) (r : List D), m = r.length → All2 Ty.Is (l.take i) r → OwnL N N' r →
  L_impl_Type_own_3_v1 Q N a es c es.length i 0 none [] 0 k m q r q N') ?_ ?_
 ·exact (key N (Nat.le_refl _)).1 rfl
 ·intro i hlt hi N' hN'
  refine ⟨fun h0 => l_impl_Type_own_3 _ _ _ _ _ _ _ _ _ _ _ _ _ _ _ _ ?_, fun m q r hm hr ho => l_impl_Type_own_3_v1 _ _ _ _ _ _ _ _ _ _ _ _ _ _ _ _ _ ?_⟩
  ·repeat' first|with_reducible intro _|simp only[hlt,Y1,Y2,Y3,Y4]|(with_reducible first|refine X1 ?_ ?_|refine X2 ?_ ?_|refine X3 ?_ ?_|refine X4 ?_ ?_|refine X5 ?_ ?_|refine X6 ?_ ?_|refine X7 ?_ ?_|refine X8 ?_ ?_|refine X9 ?_ ?_)|refine⟨_,_,_,rfl,?_⟩|refine⟨_,rfl,?_⟩|((with_reducible refine And.intro ?_ ?_);·first|omega|trivial|(show _=_;rfl)|((with_reducible refine And.intro ?_ ?_)<;>first|omega|trivial|(show _=_;rfl)))|fail
   have : l = [] := List.eq_nil_of_length_eq_zero (by omega)
   subst this
   exact hQ _ _ (by omega) (is_nil _) own_nil
  ·repeat' first|with_reducible intro _|simp only[hlt,Y1,Y2,Y3,Y4]|(with_reducible first|refine X1 ?_ ?_|refine X2 ?_ ?_|refine X3 ?_ ?_|refine X4 ?_ ?_|refine X5 ?_ ?_|refine X6 ?_ ?_|refine X7 ?_ ?_|refine X8 ?_ ?_|refine X9 ?_ ?_)|refine⟨_,_,_,rfl,?_⟩|refine⟨_,rfl,?_⟩|((with_reducible refine And.intro ?_ ?_);·first|omega|trivial|(show _=_;rfl)|((with_reducible refine And.intro ?_ ?_)<;>first|omega|trivial|(show _=_;rfl)))|fail
   rename_i a' N3 hN3 hf N4 hN4
   rw [List.take_of_length_le (by omega)] at hr
   exact hQ _ _ (by omega) (Ty.is_mk.2 ⟨_, _, _, rfl, by have := hr.len; omega, hr⟩) (own_ag (ownL_lit (ownL_one ((own_sl ho hf (by omega)).mono (Nat.le_refl _) hN4))))
 ·intro i x xs hat _ ih2 N' hN'
  have hb := hat.b
  have hxc := tys_mem_cnt hat.m
  refine ⟨fun h0 => l_impl_Type_own_3 _ _ _ _ _ _ _ _ _ _ _ _ _ _ _ _ ?_, fun m q r hm hr ho => l_impl_Type_own_3_v1 _ _ _ _ _ _ _ _ _ _ _ _ _ _ _ _ _ ?_⟩
  ·repeat' first|with_reducible intro _|simp only[hat.lt, hat.w, Int.toNat_natCast,Y1,Y2,Y3,Y4]|(with_reducible first|refine X1 ?_ ?_|refine X2 ?_ ?_|refine X3 ?_ ?_|refine X4 ?_ ?_|refine X5 ?_ ?_|refine X6 ?_ ?_|refine X7 ?_ ?_|refine X8 ?_ ?_|refine X9 ?_ ?_)|refine⟨_,_,_,rfl,?_⟩|refine⟨_,rfl,?_⟩|((with_reducible refine And.intro ?_ ?_);·first|omega|trivial|(show _=_;rfl)|((with_reducible refine And.intro ?_ ?_)<;>first|omega|trivial|(show _=_;rfl)))|refine (ih x hat.m _ hat.r (by omega)) _ _ ?_|fail
   rename_i N2 hN2 d' N3 hN3 hx hox hle hbel
   subst h0
   exact ⟨by unfold apBound; simp, fun c2 => (ih2 _ (by omega)).2 _ _ _ rfl (by rw [take_at hat.g]; exact ⟨_, _, rfl, hx, rfl⟩) (ownL_one (hox.mono (by omega) (Nat.le_refl _)))⟩
  ·repeat' first|with_reducible intro _|simp only[hat.lt, hat.w, Int.toNat_natCast,Y1,Y2,Y3,Y4]|(with_reducible first|refine X1 ?_ ?_|refine X2 ?_ ?_|refine X3 ?_ ?_|refine X4 ?_ ?_|refine X5 ?_ ?_|refine X6 ?_ ?_|refine X7 ?_ ?_|refine X8 ?_ ?_|refine X9 ?_ ?_)|refine⟨_,_,_,rfl,?_⟩|refine⟨_,rfl,?_⟩|((with_reducible refine And.intro ?_ ?_);·first|omega|trivial|(show _=_;rfl)|((with_reducible refine And.intro ?_ ?_)<;>first|omega|trivial|(show _=_;rfl)))|refine (ih x hat.m _ hat.r (by omega)) _ _ ?_|fail
   rename_i N2 hN2 d' N3 hN3 hx hox hle hbel
   have hrl := hr.len
   have hli : (l.take i).length = i := by rw [List.length_take]; omega
   refine ⟨by unfold apBound; simp only [List.length_append, List.length_singleton]; omega, fun c2 => ?_⟩
   exact (ih2 _ (by omega)).2 _ _ _ rfl (by rw [take_at hat.g]; exact hr.snoc hx) (ownL_append (ho.mono (Nat.le_refl _) hN2) (ownL_one hox) (by omega) hN3)
theorem c_tyInt : RetT 201 [] tInt := fun N Q hQ => w_impl_tyInt N Q fun N' hN' => hQ _ _ hN' (is_nil _) own_nil
theorem c_tyBool : RetT 202 [] tBool := fun N Q hQ => w_impl_tyBool N Q fun N' hN' => hQ _ _ hN' (is_nil _) own_nil
theorem c_tyFun (t u : Ty) (d e : D) (hd : t.Is d) (he : u.Is e) (hct : t.cnt ≤ 1073741824) (hcu : u.cnt ≤ 1073741824) : RetT 204 [.dg 2 d, .dg 2 e] (tFun t u) := fun N Q hQ => by
 refine w_impl_tyFun N _ _ Q fun _ _ => ?_
 repeat' first|with_reducible intro _|simp only[Y1,Y2,Y3,Y4]|(with_reducible first|refine X1 ?_ ?_|refine X2 ?_ ?_|refine X3 ?_ ?_|refine X4 ?_ ?_|refine X5 ?_ ?_|refine X6 ?_ ?_|refine X7 ?_ ?_|refine X8 ?_ ?_|refine X9 ?_ ?_)|refine⟨_,_,_,rfl,?_⟩|refine⟨_,rfl,?_⟩|((with_reducible refine And.intro ?_ ?_);·first|omega|trivial|(show _=_;rfl)|((with_reducible refine And.intro ?_ ?_)<;>first|omega|trivial|(show _=_;rfl)))|refine (c_own t d hd hct) _ _ ?_|refine (c_own u e he hcu) _ _ ?_|fail
 rename_i N1 hN1 d1 N2 hN2 h1 o1 hl1 b1 N3 hN3 d2 N4 hN4 h2 o2 hl2 b2 a' N5 hN5 hf N6 hN6
 exact hQ _ _ (by omega) (Ty.is_mk.2 ⟨_, _, _, rfl, by simp, _, _, rfl, h1, _, _, rfl, h2, rfl⟩)
  (own_ag (ownL_lit (ownL_one ((own_sl (ownL_append ((ownL_one o1).mono hN1 hN3) (ownL_one o2) (by omega) hN4) hf (by omega)).mono (Nat.le_refl _) hN6))))
theorem c_tyCode (t : Ty) (d : D) (hd : t.Is d) (hct : t.cnt ≤ 1073741824) : RetT 232 [.dg 2 d] (tCode t) := fun N Q hQ => by
 refine w_impl_tyCode N _ Q fun _ => ?_
 repeat' first|with_reducible intro _|simp only[Y1,Y2,Y3,Y4]|(with_reducible first|refine X1 ?_ ?_|refine X2 ?_ ?_|refine X3 ?_ ?_|refine X4 ?_ ?_|refine X5 ?_ ?_|refine X6 ?_ ?_|refine X7 ?_ ?_|refine X8 ?_ ?_|refine X9 ?_ ?_)|refine⟨_,_,_,rfl,?_⟩|refine⟨_,rfl,?_⟩|((with_reducible refine And.intro ?_ ?_);·first|omega|trivial|(show _=_;rfl)|((with_reducible refine And.intro ?_ ?_)<;>first|omega|trivial|(show _=_;rfl)))|refine (c_own t d hd hct) _ _ ?_|fail
 rename_i N1 hN1 d1 N2 hN2 h1 o1 hl1 b1 a' N5 hN5 hf N6 hN6
 exact hQ _ _ (by omega) (Ty.is_mk.2 ⟨_, _, _, rfl, by simp, _, _, rfl, h1, rfl⟩)
  (own_ag (ownL_lit (ownL_one ((own_sl ((ownL_one o1).mono hN1 (Nat.le_refl _)) hf (by omega)).mono (Nat.le_refl _) hN6))))
/-- the part of a code type -/
def codeTy (t : Ty) : Ty := if t.k = 4 then t.as.getD 0 tZero else tZero
theorem c_codeOf (t : Ty) (d : D) (hd : t.Is d) (hv : t.valid = true ∨ t = tZero) : RetT 233 [.dg 2 d] (codeTy t) := fun N Q hQ => by
 cases t with
 | mk k l =>
 obtain ⟨a, es, c, rfl, hlen, hes⟩ := Ty.is_mk.1 hd
 refine w_impl_codeOf N _ Q fun _ => ?_
 by_cases hk : k = 4
 ·subst hk
  rcases hv with hv | hv
  ·have hf := Ty.form_len hv
   have hcn := Ty.valid_cnt hv
   have hl1 : (l.length : Int) = 1 := by simpa [formK] using hf
   obtain ⟨u, rfl⟩ := one_of (l := l) (by omega)
   obtain ⟨x0, _, rfl, hx0, rfl⟩ := hes
   simp only [Ty.cnt, tysCnt] at hcn
   have e : codeTy (.mk 4 [u]) = u := rfl
   rw [e] at hQ
   repeat' first|with_reducible intro _|simp only[List.length_cons, List.length_nil,Y1,Y2,Y3,Y4]|(with_reducible first|refine X1 ?_ ?_|refine X2 ?_ ?_|refine X3 ?_ ?_|refine X4 ?_ ?_|refine X5 ?_ ?_|refine X6 ?_ ?_|refine X7 ?_ ?_|refine X8 ?_ ?_|refine X9 ?_ ?_)|refine⟨_,_,_,rfl,?_⟩|refine⟨_,rfl,?_⟩|((with_reducible refine And.intro ?_ ?_);·first|omega|trivial|(show _=_;rfl)|((with_reducible refine And.intro ?_ ?_)<;>first|omega|trivial|(show _=_;rfl)))|refine (c_own u _ hx0 (by omega)) _ _ ?_|fail
   all_goals first | (exfalso; omega) | skip
   rename_i N1 hN1 d1 N2 hN2 h1 o1 hl1 b1 N3 hN3
   exact hQ _ _ (by omega) h1 (o1.mono (by omega) (by omega))
  ·cases hv
 ·have e : codeTy (.mk k l) = tZero := by unfold codeTy; exact if_neg hk
  rw [e] at hQ
  repeat' first|with_reducible intro _|simp only[Y1,Y2,Y3,Y4]|(with_reducible first|refine X1 ?_ ?_|refine X2 ?_ ?_|refine X3 ?_ ?_|refine X4 ?_ ?_|refine X5 ?_ ?_|refine X6 ?_ ?_|refine X7 ?_ ?_|refine X8 ?_ ?_|refine X9 ?_ ?_)|refine⟨_,_,_,rfl,?_⟩|refine⟨_,rfl,?_⟩|((with_reducible refine And.intro ?_ ?_);·first|omega|trivial|(show _=_;rfl)|((with_reducible refine And.intro ?_ ?_)<;>first|omega|trivial|(show _=_;rfl)))|fail
  all_goals first | (exfalso; omega) | skip
  exact hQ _ _ (by omega) zero_is own_nil
def allEq (u : Ty) : List Ty → Bool
 | [] => true
 | t :: ts => tyEq t u && allEq u ts
def opInT (s : ByteArray) : Ty := if s = bytes [61] then tInt else if s = bytes [60] then tInt else if s = bytes [38] then tBool else if s = bytes [124] then tBool else if s = bytes [33] then tBool else tInt
def opOutT (s : ByteArray) : Ty := if s = bytes [61] then tBool else if s = bytes [60] then tBool else if s = bytes [38] then tBool else if s = bytes [124] then tBool else if s = bytes [33] then tBool else tInt
theorem c_opType {ts : List Ty} {es : List D} (h : All2 Ty.Is ts es) (hlen : es.length ≤ 4611686018427387904) (a : Option Addr) (c : Nat) (s : ByteArray) :
  RetT 203 [.str s, .sv a 2 es c] (if allEq (opInT s) ts then opOutT s else tZero) := fun N Q hQ => by
 have key : ∀ (u v : Ty) (d e : D) (N0 N1 : Nat), u.Is d → v.Is e → Own N N1 e → N ≤ N1 → opInT s = u → opOutT s = v → L_impl_opType_11 Q N a es c es.length (0 : Nat) 0 none [] 0 d e N1 := by
  intro u v d e N0 N1 hd he ho hN1 hu hv
  subst hu hv
  refine up h hlen (fun i xs => ∀ (N' : Nat), N1 ≤ N' → allEq (opInT s) xs = allEq (opInT s) ts → L_impl_opType_11 Q N a es c es.length i 0 none [] 0 d e N') ?_ ?_ N1 (Nat.le_refl _) rfl
  ·intro i hlt _ N' hN' hk
   refine l_impl_opType_11 _ _ _ _ _ _ _ _ _ _ _ _ _ _ ?_
   rw [← hk] at hQ
   repeat' first|with_reducible intro _|simp only[hlt,Y1,Y2,Y3,Y4]|(with_reducible first|refine X1 ?_ ?_|refine X2 ?_ ?_|refine X3 ?_ ?_|refine X4 ?_ ?_|refine X5 ?_ ?_|refine X6 ?_ ?_|refine X7 ?_ ?_|refine X8 ?_ ?_|refine X9 ?_ ?_)|refine⟨_,_,_,rfl,?_⟩|refine⟨_,rfl,?_⟩|((with_reducible refine And.intro ?_ ?_);·first|omega|trivial|(show _=_;rfl)|((with_reducible refine And.intro ?_ ?_)<;>first|omega|trivial|(show _=_;rfl)))|fail
   exact hQ _ _ (by omega) he (ho.mono (Nat.le_refl _) (by omega))
  ·intro i x xs hat _ ih2 N' hN' hk
   have hb := hat.b
   refine l_impl_opType_11 _ _ _ _ _ _ _ _ _ _ _ _ _ _ ?_
   repeat' first|with_reducible intro _|simp only[hat.lt, hat.w, Int.toNat_natCast,Y1,Y2,Y3,Y4]|(with_reducible first|refine X1 ?_ ?_|refine X2 ?_ ?_|refine X3 ?_ ?_|refine X4 ?_ ?_|refine X5 ?_ ?_|refine X6 ?_ ?_|refine X7 ?_ ?_|refine X8 ?_ ?_|refine X9 ?_ ?_)|refine⟨_,_,_,rfl,?_⟩|refine⟨_,rfl,?_⟩|((with_reducible refine And.intro ?_ ?_);·first|omega|trivial|(show _=_;rfl)|((with_reducible refine And.intro ?_ ?_)<;>first|omega|trivial|(show _=_;rfl)))|refine (c_impl_EqualType x _ _ _ hat.r hd) _ _ ?_|fail
   ·rename_i hne _ _
    rw [← hk, allEq, hne] at hQ
    exact hQ _ _ (by omega) zero_is own_nil
   ·rename_i hne
    exact ih2 _ (by omega) (by rw [← hk, allEq, hne, Bool.true_and])
 refine w_impl_opType N s a es c Q fun _ => ?_
 repeat' first|with_reducible intro _|simp only[Y1,Y2,Y3,Y4]|(with_reducible first|refine X1 ?_ ?_|refine X2 ?_ ?_|refine X3 ?_ ?_|refine X4 ?_ ?_|refine X5 ?_ ?_|refine X6 ?_ ?_|refine X7 ?_ ?_|refine X8 ?_ ?_|refine X9 ?_ ?_)|refine⟨_,_,_,rfl,?_⟩|refine⟨_,rfl,?_⟩|((with_reducible refine And.intro ?_ ?_);·first|omega|trivial|(show _=_;rfl)|((with_reducible refine And.intro ?_ ?_)<;>first|omega|trivial|(show _=_;rfl)))|refine c_tyInt _ _ ?_|refine c_tyBool _ _ ?_|fail
 all_goals first
  | exact key tInt tBool _ _ 0 _ (by assumption) (by assumption) (Own.mono (by assumption) (by omega) (by omega)) (by omega) (by unfold opInT; (repeat' split) <;> first | rfl | contradiction) (by unfold opOutT; (repeat' split) <;> first | rfl | contradiction)
  | exact key tBool tBool _ _ 0 _ (by assumption) (by assumption) (Own.mono (by assumption) (by omega) (by omega)) (by omega) (by unfold opInT; (repeat' split) <;> first | rfl | contradiction) (by unfold opOutT; (repeat' split) <;> first | rfl | contradiction)
  | exact key tInt tInt _ _ 0 _ (by assumption) (by assumption) (Own.mono (by assumption) (by omega) (by omega)) (by omega) (by unfold opInT; (repeat' split) <;> first | rfl | contradiction) (by unfold opOutT; (repeat' split) <;> first | rfl | contradiction)
theorem ac_nil {f : FuncId} {rs : List Sh} {args : List PV} {N z c : Nat} {Q : QT rs} {es : List D} (hc : callable prog f = true) (hm : PV.sv none z es c ∈ args) (hne : es ≠ []) : ACalls prog f rs args N Q :=
 ⟨hc, fun av w0 _ _ hok => by
  have h := (hok _ hm).1.1
  cases h
  exact absurd rfl hne⟩
theorem c_clone {g : List Tg} {es : List D} (h : Ctx g es) (hg : g.length ≤ 1073741824) (a : Option Addr) (c : Nat) (N : Nat) (Q : QT [.row 97 4]) (hQ : ∀ c' N', N ≤ N' → Q es c' N') : ACalls prog 210 [.row 97 4] [.sv a 4 es c] N Q := by
 have hl := h.all.len
 have hb0 : apBound [] es 56 := by unfold apBound; simp only [List.nil_append]; omega
 have main : (a = none → es = []) → ACalls prog 210 [.row 97 4] [.sv a 4 es c] N Q := fun hn => by
  refine w_slices_Clone_Typing N a es c Q fun _ => ?_
  repeat' first|with_reducible intro _|simp only[Y1,Y2,Y3,Y4]|(with_reducible first|refine X1 ?_ ?_|refine X2 ?_ ?_|refine X3 ?_ ?_|refine X4 ?_ ?_|refine X5 ?_ ?_|refine X6 ?_ ?_|refine X7 ?_ ?_|refine X8 ?_ ?_|refine X9 ?_ ?_)|refine⟨_,_,_,rfl,?_⟩|refine⟨_,rfl,?_⟩|((with_reducible refine And.intro ?_ ?_);·first|omega|trivial|(show _=_;rfl)|((with_reducible refine And.intro ?_ ?_)<;>first|omega|trivial|(show _=_;rfl)))|fail
  ·rename_i hi N1 hN1
   have : es = [] := hn (by simpa using hi)
   subst this
   exact hQ _ _ hN1
  ·simp only [List.nil_append]
   exact hQ _ _ (by omega)
 cases a with
 | some ad => exact main (by simp)
 | none =>
   by_cases hne : es = []
   ·exact main fun _ => hne
   ·exact ac_nil (z := 4) (c := c) (es := es) (by kernel_rfl) (by simp) hne
theorem foot_sl_sub {a : Option Addr} {z c : Nat} {es : List D} : ∀ x ∈ (D.sl a z es c).foot, x ∈ footL es ∨ ∃ ad, a = some ad ∧ x = ad.block := by
 intro x hx
 cases a with
 | none => simp only [D.foot] at hx; exact .inl hx
 | some ad =>
   simp only [D.foot] at hx
   split at hx
   ·simp at hx
   ·rcases List.mem_cons.1 hx with rfl | hx
    ·exact .inr ⟨ad, rfl, rfl⟩
    ·exact .inl hx
theorem footL_sl {a : Option Addr} {z c : Nat} {es : List D} : ∀ x ∈ footL es, x ∈ (D.sl a z es c).foot := by
 intro x hx
 cases a with
 | none => simpa only [D.foot] using hx
 | some ad =>
   simp only [D.foot]
   split
   ·rename_i h
    cases es with
    | nil => simp [footL] at hx
    | cons => simp at h
   ·exact List.mem_cons_of_mem _ hx
theorem c_with {g h : List Tg} {es fs : List D} (hg : Ctx g es) (hh : Ctx h fs) (hgl : g.length + h.length ≤ 1073741824) (a b : Option Addr) (c e : Nat) (N : Nat) (Q : QT [.sl 4])
  (hQ : ∀ a' es' c' N', N ≤ N' → Ctx (g ++ h) es' → (∀ x ∈ (D.sl a' 4 es' c').foot, x ∈ footL es ∨ x ∈ footL fs ∨ N ≤ x) → Q a' es' c' N') : ACalls prog 162 [.sl 4] [.sv a 4 es c, .sv b 4 fs e] N Q := by
 have hl := hg.all.len
 have hl2 := hh.all.len
 have hb : apBound es fs 56 := by unfold apBound; simp only [List.length_append]; omega
 refine w_impl_with N a es c b fs e Q fun _ _ => ?_
 repeat' first|with_reducible intro _|simp only[Y1,Y2,Y3,Y4]|(with_reducible first|refine X1 ?_ ?_|refine X2 ?_ ?_|refine X3 ?_ ?_|refine X4 ?_ ?_|refine X5 ?_ ?_|refine X6 ?_ ?_|refine X7 ?_ ?_|refine X8 ?_ ?_|refine X9 ?_ ?_)|refine⟨_,_,_,rfl,?_⟩|refine⟨_,rfl,?_⟩|((with_reducible refine And.intro ?_ ?_);·first|omega|trivial|(show _=_;rfl)|((with_reducible refine And.intro ?_ ?_)<;>first|omega|trivial|(show _=_;rfl)))|refine (c_clone hg (by omega) _ _) _ _ ?_|fail
 rename_i a' N3 hN3 hf N4 hN4
 refine hQ _ _ _ _ (by omega) ⟨by simp; omega, hg.all.app hh.all⟩ fun x hx => ?_
 rcases foot_sl_sub x hx with h1 | ⟨ad, rfl, rfl⟩
 ·rw [footL_append] at h1
  rcases List.mem_append.1 h1 with h1 | h1
  ·exact .inl h1
  ·exact .inr (.inl h1)
 ·have := hf.lo ad rfl
  exact .inr (.inr (by omega))
theorem c_SafeCtx {g : List Tg} {es : List D} (h : Ctx g es) (hg : g.length ≤ 1073741824) (hc : ∀ x ∈ g, x.ty.cnt ≤ 1073741824) (a : Option Addr) (c : Nat) (n : Int) :
  ∀ (N : Nat) (Q : QT [.sl 4]), (∀ a' es' c' N', N ≤ N' → Ctx (safeC g n) es' → Q a' es' c' N') → ACalls prog 234 [.sl 4] [.sv a 4 es c, .int .i64 n] N Q := fun N Q hQ => by
 have hl := h.all.len
 refine w_impl_SafeCtx N a es c n Q fun _ => ?_
 have key := up h.all h.len (fun i xs => ∀ (r : List D) (m q : Nat) (N' : Nat) (done : List Tg), N ≤ N' → m = r.length → All2 Tg.Is done r → done.length ≤ i → done ++ safeGo g n xs i = safeC g n → L_impl_SafeCtx_3 Q N a es c n m q a es c es.length i r q N') ?_ ?_
 ·exact key [] 0 0 N [] (Nat.le_refl _) rfl rfl (Nat.le_refl _) rfl
 ·intro i hlt hi r m q N' done hN' hm hr hdl hd
  refine l_impl_SafeCtx_3 _ _ _ _ _ _ _ _ _ _ _ _ _ _ _ _ ?_
  repeat' first|with_reducible intro _|simp only[hlt,Y1,Y2,Y3,Y4]|(with_reducible first|refine X1 ?_ ?_|refine X2 ?_ ?_|refine X3 ?_ ?_|refine X4 ?_ ?_|refine X5 ?_ ?_|refine X6 ?_ ?_|refine X7 ?_ ?_|refine X8 ?_ ?_|refine X9 ?_ ?_)|refine⟨_,_,_,rfl,?_⟩|refine⟨_,rfl,?_⟩|((with_reducible refine And.intro ?_ ?_);·first|omega|trivial|(show _=_;rfl)|((with_reducible refine And.intro ?_ ?_)<;>first|omega|trivial|(show _=_;rfl)))|fail
  refine hQ _ _ _ _ (by omega) ⟨by have := hr.len; omega, ?_⟩
  simp only [safeGo, List.append_nil] at hd
  rwa [← hd]
 ·intro i x xs hat _ ih2 r m q N' done hN' hm hr hdl hd
  have hb := hat.b
  have hrl := hr.len
  obtain ⟨t0, t1, he, hs, ht⟩ := hat.r
  simp only [safeGo] at hd
  refine l_impl_SafeCtx_3 _ _ _ _ _ _ _ _ _ _ _ _ _ _ _ _ ?_
  repeat' first|with_reducible intro _|simp only[hat.lt, hat.w, Int.toNat_natCast, he,Y1,Y2,Y3,Y4]|(with_reducible first|refine X1 ?_ ?_|refine X2 ?_ ?_|refine X3 ?_ ?_|refine X4 ?_ ?_|refine X5 ?_ ?_|refine X6 ?_ ?_|refine X7 ?_ ?_|refine X8 ?_ ?_|refine X9 ?_ ?_)|refine⟨_,_,_,rfl,?_⟩|refine⟨_,rfl,?_⟩|((with_reducible refine And.intro ?_ ?_);·first|omega|trivial|(show _=_;rfl)|((with_reducible refine And.intro ?_ ?_)<;>first|omega|trivial|(show _=_;rfl)))|refine (c_impl_IsBase _ _ ht) _ _ ?_|refine (c_counting h a c _) _ _ ?_|refine (c_own _ _ ht (hc x hat.m)) _ _ ?_|fail
  ·rename_i N2 hN2 x' N3 hN3 hx ho _ _
   have hin : safeIn g n x i = true := by simp [safeIn, *]
   rw [if_pos hin] at hd
   refine ⟨by unfold apBound; simp only [List.length_append, List.length_singleton]; omega, fun c2 => ih2 _ _ _ _ (done ++ [x]) (by omega) rfl (hr.snoc ⟨_, _, rfl, hs, Ty.is_cells hx⟩) (by simp; omega) (by simpa using hd)⟩
  all_goals (refine ih2 _ _ _ _ done (by omega) hm hr (by omega) ?_; rw [← hd, if_neg (by simp [safeIn, *])])
end Go.Proofs.YtfkmegifjiiclaaGreat
