/- The program's TypeOf. -/
import Derived.Test.YtfkmegifjiiclaaGreatVs
set_option linter.unusedVariables false
set_option linter.unusedSimpArgs false
namespace Go.Proofs.YtfkmegifjiiclaaGreat
open Go Go.Proofs Go.Proofs.Tryz Go.IntWalk

theorem f4 {nm ot : ByteArray} {m n : Int} {ty re : Ty} {l : List Tm} {t0 t1 r0 r1 : D} {es1 : List D} {a1 a : Option Addr} {c1 c : Nat} {g : List Tg} {es : List D} (ih : IHi l) (hh : Tm.Hd nm ot ty re t0 t1 r0 r1) (h0 : All2 Tm.Is l es1) (hl1 : es1.length ≤ 4611686018427387904)
  (pre : Pre g (.mk 4 nm ot m ty re l) n) (ctx : Ctx g es) :
  RetT 160 [.sv a 4 es c, .dg 9 (nodeD 4 nm ot m t0 t1 r0 r1 a1 es1 c1), .int .i64 n] ((Tm.raw (.mk 4 nm ot m ty re l) g n).getD tZero) := fun N Q hQ => by
 have hlen := pre.len
 have hcl := tms_len_cnt l
 have hln := h0.len
 simp only [Tm.cnt] at hlen
 have hop : 0 < opAr nm := by
  have := (node_of pre.ok).f
  simp only [fieldsOk, namesOk, Bool.and_eq_true] at this
  have := this.2.2.2.2.2
  simp at this
  exact this.1
 have hraw : (Tm.raw (.mk 4 nm ot m ty re l) g n).getD tZero = if allEq (opInT nm) (l.map fun e => tyZ e g n) then opOutT nm else tZero := by
  rw [← f_op hop]
  simp only [Tm.raw]
  rfl
 rw [hraw] at hQ
 have hn : nextL 4 n = n := by simp [nextL]
 have key : L_impl_formType_15 Q N 0 0 es1.length (0 : Nat) (nodeD 4 nm ot m t0 t1 r0 r1 a1 es1 c1) 0 none [] 0 a es c n [] 0 N := by
  refine up h0 hl1 (fun i xs => ∀ (r : List D) (q p : Nat) (N' : Nat) (ts : List Ty), N ≤ N' → p = r.length → All2 Ty.Is ts r → ts.length = i → (∀ b ∈ footL r, N ≤ b) → ts ++ (xs.map fun e => tyZ e g n) = (l.map fun e => tyZ e g n) →
   L_impl_formType_15 Q N p q es1.length i (nodeD 4 nm ot m t0 t1 r0 r1 a1 es1 c1) 0 none [] 0 a es c n r q N') ?_ ?_ [] 0 0 N [] (Nat.le_refl _) rfl rfl rfl (by simp [footL]) rfl
  ·intro i hlt hi r q p N' ts hN' hp hr hti hlo hts
   have hrl := hr.len
   simp only [List.map_nil, List.append_nil] at hts
   rw [← hts] at hQ
   refine l_impl_formType_15 _ _ _ _ _ _ _ _ _ _ _ _ _ _ _ _ _ _ ?_
   repeat' first|with_reducible intro _|simp only[hlt,Y1,Y2,Y3,Y4]|(with_reducible first|refine X1 ?_ ?_|refine X2 ?_ ?_|refine X3 ?_ ?_|refine X4 ?_ ?_|refine X5 ?_ ?_|refine X6 ?_ ?_|refine X7 ?_ ?_|refine X8 ?_ ?_|refine X9 ?_ ?_)|refine⟨_,_,_,rfl,?_⟩|refine⟨_,rfl,?_⟩|((with_reducible refine And.intro ?_ ?_);·first|omega|trivial|(show _=_;rfl)|((with_reducible refine And.intro ?_ ?_)<;>first|omega|trivial|(show _=_;rfl)))|refine (c_opType hr (by omega) _ _ nm) _ _ ?_|(((with_reducible refine And.intro ?_ ?_); · exact off_own (by assumption) (by assumption)))|fail
   exact hQ _ _ (by omega) (by assumption) (Own.mono (by assumption) (by omega) (by omega))
  ·intro i x xs hat _ ih2 r q p N' ts hN' hp hr hti hlo hts
   have hb := hat.b
   have hrl := hr.len
   refine l_impl_formType_15 _ _ _ _ _ _ _ _ _ _ _ _ _ _ _ _ _ _ ?_
   repeat' first|with_reducible intro _|simp only[hat.lt, hat.w, Int.toNat_natCast,Y1,Y2,Y3,Y4]|(with_reducible first|refine X1 ?_ ?_|refine X2 ?_ ?_|refine X3 ?_ ?_|refine X4 ?_ ?_|refine X5 ?_ ?_|refine X6 ?_ ?_|refine X7 ?_ ?_|refine X8 ?_ ?_|refine X9 ?_ ?_)|refine⟨_,_,_,rfl,?_⟩|refine⟨_,rfl,?_⟩|((with_reducible refine And.intro ?_ ?_);·first|omega|trivial|(show _=_;rfl)|((with_reducible refine And.intro ?_ ?_)<;>first|omega|trivial|(show _=_;rfl)))|refine (c_part hn ih h0 hl1 pre ctx i hat.g _ _ _) _ _ ?_|(((with_reducible refine And.intro ?_ ?_); · exact off_own (by assumption) (by assumption)))|fail
   all_goals first | (exfalso; omega) | skip
   rename_i hd ho _ _
   refine ⟨by unfold apBound; simp only [List.length_append, List.length_singleton]; omega, fun c2 => ih2 _ _ _ _ (ts ++ [tyZ x g n]) (by omega) rfl (hr.snoc hd) (by simp [hti]) (fun b hb => ?_) (by simpa using hts)⟩
   rw [footL_append] at hb
   rcases List.mem_append.1 hb with hb | hb
   ·exact hlo b hb
   ·simp only [footL, List.append_nil] at hb
    have := ho.lo b hb
    omega
 refine w_impl_formType N a es c _ n Q fun _ _ => ⟨_, rfl, ?_⟩
 repeat' first|with_reducible intro _|simp only[Y1,Y2,Y3,Y4]|(with_reducible first|refine X1 ?_ ?_|refine X2 ?_ ?_|refine X3 ?_ ?_|refine X4 ?_ ?_|refine X5 ?_ ?_|refine X6 ?_ ?_|refine X7 ?_ ?_|refine X8 ?_ ?_|refine X9 ?_ ?_)|refine⟨_,_,_,rfl,?_⟩|refine⟨_,rfl,?_⟩|((with_reducible refine And.intro ?_ ?_);·first|omega|trivial|(show _=_;rfl)|((with_reducible refine And.intro ?_ ?_)<;>first|omega|trivial|(show _=_;rfl)))|fail
 all_goals first | (exfalso; omega) | exact key
theorem f1 {nm ot : ByteArray} {m n : Int} {ty re : Ty} {l : List Tm} {t0 t1 r0 r1 : D} {es1 : List D} {a1 a : Option Addr} {c1 c : Nat} {g : List Tg} {es : List D}
  (pre : Pre g (.mk 1 nm ot m ty re l) n) (ctx : Ctx g es) :
  RetT 160 [.sv a 4 es c, .dg 9 (nodeD 1 nm ot m t0 t1 r0 r1 a1 es1 c1), .int .i64 n] ((Tm.raw (.mk 1 nm ot m ty re l) g n).getD tZero) := fun N Q hQ => by
 have hl2 := ctx.all.len
 have hraw : Tm.raw (.mk 1 nm ot m ty re l) g n = varTy g nm n := by simp [Tm.raw]
 rw [hraw] at hQ
 refine w_impl_formType N a es c _ n Q fun _ _ => ⟨_, rfl, ?_⟩
 rcases lastTo_in g nm g.length with hlx | hlx
 ·have hlx : lastIx g nm = -1 := hlx
  have : varTy g nm n = none := by simp [varTy, hlx]
  rw [this] at hQ
  repeat' first|with_reducible intro _|simp only[hlx,Y1,Y2,Y3,Y4]|(with_reducible first|refine X1 ?_ ?_|refine X2 ?_ ?_|refine X3 ?_ ?_|refine X4 ?_ ?_|refine X5 ?_ ?_|refine X6 ?_ ?_|refine X7 ?_ ?_|refine X8 ?_ ?_|refine X9 ?_ ?_)|refine⟨_,_,_,rfl,?_⟩|refine⟨_,rfl,?_⟩|((with_reducible refine And.intro ?_ ?_);·first|omega|trivial|(show _=_;rfl)|((with_reducible refine And.intro ?_ ?_)<;>first|omega|trivial|(show _=_;rfl)))|refine (c_counting ctx a c nm) _ _ ?_|fail
  all_goals first | (exfalso; omega) | skip
  exact hQ _ _ (by omega) zero_is own_nil
 ·have hlx : 0 ≤ lastIx g nm ∧ lastIx g nm < g.length := hlx
  have hg : g[(lastIx g nm).toNat]? = some g[(lastIx g nm).toNat] := List.getElem?_eq_getElem (by omega)
  have hx := ctx.all.get hg
  have hgd : g.getD (lastIx g nm).toNat tg0 = g[(lastIx g nm).toNat] := getD_of hg
  obtain ⟨u0, u1, hd, hs, ht⟩ := hx
  have hm : g[(lastIx g nm).toNat] ∈ g := List.getElem_mem _
  have hcn := pre.ty _ hm
  have : varTy g nm n = if g[(lastIx g nm).toNat].lv = n then some g[(lastIx g nm).toNat].ty else none := by
   rw [varTy, if_neg (by omega), hgd]
  rw [this] at hQ
  generalize g[(lastIx g nm).toNat] = x at *
  repeat' first|with_reducible intro _|simp only[hd,Y1,Y2,Y3,Y4]|(with_reducible first|refine X1 ?_ ?_|refine X2 ?_ ?_|refine X3 ?_ ?_|refine X4 ?_ ?_|refine X5 ?_ ?_|refine X6 ?_ ?_|refine X7 ?_ ?_|refine X8 ?_ ?_|refine X9 ?_ ?_)|refine⟨_,_,_,rfl,?_⟩|refine⟨_,rfl,?_⟩|((with_reducible refine And.intro ?_ ?_);·first|omega|trivial|(show _=_;rfl)|((with_reducible refine And.intro ?_ ?_)<;>first|omega|trivial|(show _=_;rfl)))|refine (c_counting ctx a c nm) _ _ ?_|refine (c_own _ _ ht (by omega)) _ _ ?_|fail
  all_goals first | (exfalso; omega) | skip
  ·rw [if_pos (by assumption)] at hQ; exact hQ _ _ (by omega) (by assumption) (Own.mono (by assumption) (by omega) (by omega))
  ·rw [if_neg (by assumption)] at hQ; exact hQ _ _ (by omega) zero_is own_nil
theorem c_formType {e : Tm} {d : D} (he : e.Is d) (ih : match e with | .mk _ _ _ _ _ _ l => IHi l) {g : List Tg} {es : List D} (a : Option Addr) (c : Nat) {n : Int} (pre : Pre g e n) (ctx : Ctx g es) :
  RetT 160 [.sv a 4 es c, .dg 9 d, .int .i64 n] ((e.raw g n).getD tZero) := by
 cases e with
 | mk k nm ot m ty re l =>
 dsimp only at ih
 obtain ⟨t0, t1, r0, r1, a1, es1, c1, rfl, hh, hlen1, hes1⟩ := Tm.is_mk.1 he
 have nd := node_of pre.ok
 have har := nd.ar
 have hkk := arOf_kind (k := k) (nm := nm) (by omega)
 rcases hkk with rfl | rfl | rfl | rfl | rfl | rfl | rfl | rfl | rfl | h | h | h | h
 ·exact f1 pre ctx
 ·intro N Q hQ
  have hraw : Tm.raw (.mk 2 nm ot m ty re l) g n = some tInt := by simp [Tm.raw]
  rw [hraw] at hQ
  refine w_impl_formType N a es c _ n Q fun _ _ => ⟨_, rfl, ?_⟩
  repeat' first|with_reducible intro _|simp only[Y1,Y2,Y3,Y4]|(with_reducible first|refine X1 ?_ ?_|refine X2 ?_ ?_|refine X3 ?_ ?_|refine X4 ?_ ?_|refine X5 ?_ ?_|refine X6 ?_ ?_|refine X7 ?_ ?_|refine X8 ?_ ?_|refine X9 ?_ ?_)|refine⟨_,_,_,rfl,?_⟩|refine⟨_,rfl,?_⟩|((with_reducible refine And.intro ?_ ?_);·first|omega|trivial|(show _=_;rfl)|((with_reducible refine And.intro ?_ ?_)<;>first|omega|trivial|(show _=_;rfl)))|refine c_tyInt _ _ ?_|fail
  all_goals first | (exfalso; omega) | skip
  exact hQ _ _ (by omega) (by assumption) (Own.mono (by assumption) (by omega) (by omega))
 ·intro N Q hQ
  have hraw : Tm.raw (.mk 3 nm ot m ty re l) g n = some tBool := by simp [Tm.raw]
  rw [hraw] at hQ
  refine w_impl_formType N a es c _ n Q fun _ _ => ⟨_, rfl, ?_⟩
  repeat' first|with_reducible intro _|simp only[Y1,Y2,Y3,Y4]|(with_reducible first|refine X1 ?_ ?_|refine X2 ?_ ?_|refine X3 ?_ ?_|refine X4 ?_ ?_|refine X5 ?_ ?_|refine X6 ?_ ?_|refine X7 ?_ ?_|refine X8 ?_ ?_|refine X9 ?_ ?_)|refine⟨_,_,_,rfl,?_⟩|refine⟨_,rfl,?_⟩|((with_reducible refine And.intro ?_ ?_);·first|omega|trivial|(show _=_;rfl)|((with_reducible refine And.intro ?_ ?_)<;>first|omega|trivial|(show _=_;rfl)))|refine c_tyBool _ _ ?_|fail
  all_goals first | (exfalso; omega) | skip
  exact hQ _ _ (by omega) (by assumption) (Own.mono (by assumption) (by omega) (by omega))
 ·exact f4 ih hh hes1 hlen1 pre ctx
 ·exact f5 ih hh hes1 hlen1 pre ctx
 ·exact f6 ih hh hes1 hlen1 pre ctx
 ·exact f7 ih hh hes1 hlen1 pre ctx
 ·exact f8 ih hh hes1 hlen1 pre ctx
 ·exact f9 ih hh hes1 hlen1 pre ctx
 all_goals
  intro N Q hQ
  have hk : k = 10 ∨ k = 11 ∨ k = 12 ∨ k = 13 := by omega
  refine w_impl_formType N a es c _ n Q fun _ _ => ⟨_, rfl, ?_⟩
  repeat' first|with_reducible intro _|simp only[Y1,Y2,Y3,Y4]|(with_reducible first|refine X1 ?_ ?_|refine X2 ?_ ?_|refine X3 ?_ ?_|refine X4 ?_ ?_|refine X5 ?_ ?_|refine X6 ?_ ?_|refine X7 ?_ ?_|refine X8 ?_ ?_|refine X9 ?_ ?_)|refine⟨_,_,_,rfl,?_⟩|refine⟨_,rfl,?_⟩|((with_reducible refine And.intro ?_ ?_);·first|omega|trivial|(show _=_;rfl)|((with_reducible refine And.intro ?_ ?_)<;>first|omega|trivial|(show _=_;rfl)))|refine (fS hk ih hh hes1 hlen1 pre ctx) _ _ ?_|fail
  all_goals first | (exfalso; omega) | skip
  exact hQ _ _ (by omega) (by assumption) (Own.mono (by assumption) (by omega) (by omega))
theorem tyZ_raw (e : Tm) (g : List Tg) (n : Int) : tyZ e g n = if ((e.raw g n).getD tZero).valid then (e.raw g n).getD tZero else tZero := by
 rw [tyZ, Tm.type_eq]
 cases e.raw g n with
 | none => rfl
 | some t =>
   simp only [vld, Option.getD_some]
   split <;> rfl
theorem c_typed : ∀ (e : Tm), ∀ d, e.Is d → ∀ g es a c n, Pre g e n → Ctx g es → RetT 120 [.sv a 4 es c, .dg 9 d, .int .i64 n] (tyZ e g n) := by
 refine Tm.ind fun k nm ot m ty re l ih d hd g es a c n pre ctx N Q hQ => ?_
 have hs := c_formType hd ih a c pre ctx
 rw [tyZ_raw] at hQ
 have hc : ((Tm.raw (.mk k nm ot m ty re l) g n).getD tZero).cnt ≤ 64 := by
  cases h : Tm.raw (.mk k nm ot m ty re l) g n with
  | none => simp [tZero, Ty.cnt, tysCnt]
  | some t => simpa using raw_cnt pre h
 generalize (Tm.raw (.mk k nm ot m ty re l) g n).getD tZero = z at *
 refine w_impl_typed N a es c _ n Q fun _ _ => ?_
 repeat' first|with_reducible intro _|simp only[Y1,Y2,Y3,Y4]|(with_reducible first|refine X1 ?_ ?_|refine X2 ?_ ?_|refine X3 ?_ ?_|refine X4 ?_ ?_|refine X5 ?_ ?_|refine X6 ?_ ?_|refine X7 ?_ ?_|refine X8 ?_ ?_|refine X9 ?_ ?_)|refine⟨_,_,_,rfl,?_⟩|refine⟨_,rfl,?_⟩|((with_reducible refine And.intro ?_ ?_);·first|omega|trivial|(show _=_;rfl)|((with_reducible refine And.intro ?_ ?_)<;>first|omega|trivial|(show _=_;rfl)))|refine hs _ _ ?_|refine (c_impl_IsValidType z _ (by assumption) (by omega)) _ _ ?_|fail
 all_goals first
  | exact hQ _ _ (by omega) (by rw [if_pos (by assumption)]; assumption) (Own.mono (by assumption) (by omega) (by omega))
  | exact hQ _ _ (by omega) (by rw [if_neg (by simp [*])]; exact zero_is) own_nil
/-- returns this type and true, or the zero type and false, in memory of its own -/
def RetW (f : FuncId) (args : List PV) (o : Option Ty) : Prop := ∀ (N : Nat) (Q : QT [.ag 2, .bool]), (∀ d N', N ≤ N' → (o.getD tZero).Is d → Own N N' d → Q d o.isSome N') → ACalls prog f [.ag 2, .bool] args N Q
theorem c_impl_TypeOf {g : List Tg} {es : List D} (ctx : Ctx g es) (hg : ∀ x ∈ g, x.ty.cnt ≤ 1073741824) {e : Tm} {d : D} (he : e.Is d) (hc : e.cnt ≤ 1048576000 / 2) (a : Option Addr) (c : Nat) (n : Int) :
  RetW 100 [.sv a 4 es c, .dg 9 d, .int .i64 n] (typeOf g e n) := fun N Q hQ => by
 refine w_impl_TypeOf N a es c d n Q fun _ _ => ?_
 cases h1 : ctxOk g with
 | false =>
   rw [typeOf, if_neg (by simp [h1])] at hQ
   repeat' first|with_reducible intro _|simp only[h1,Y1,Y2,Y3,Y4]|(with_reducible first|refine X1 ?_ ?_|refine X2 ?_ ?_|refine X3 ?_ ?_|refine X4 ?_ ?_|refine X5 ?_ ?_|refine X6 ?_ ?_|refine X7 ?_ ?_|refine X8 ?_ ?_|refine X9 ?_ ?_)|refine⟨_,_,_,rfl,?_⟩|refine⟨_,rfl,?_⟩|((with_reducible refine And.intro ?_ ?_);·first|omega|trivial|(show _=_;rfl)|((with_reducible refine And.intro ?_ ?_)<;>first|omega|trivial|(show _=_;rfl)))|refine (c_impl_IsCtx ctx hg a c) _ _ ?_|fail
   exact hQ _ _ (by omega) zero_is own_nil
 | true =>
   cases h2 : levOk e n with
   | false =>
     rw [typeOf, if_neg (by simp [h2])] at hQ
     repeat' first|with_reducible intro _|simp only[h1, h2,Y1,Y2,Y3,Y4]|(with_reducible first|refine X1 ?_ ?_|refine X2 ?_ ?_|refine X3 ?_ ?_|refine X4 ?_ ?_|refine X5 ?_ ?_|refine X6 ?_ ?_|refine X7 ?_ ?_|refine X8 ?_ ?_|refine X9 ?_ ?_)|refine⟨_,_,_,rfl,?_⟩|refine⟨_,rfl,?_⟩|((with_reducible refine And.intro ?_ ?_);·first|omega|trivial|(show _=_;rfl)|((with_reducible refine And.intro ?_ ?_)<;>first|omega|trivial|(show _=_;rfl)))|refine (c_impl_IsCtx ctx hg a c) _ _ ?_|refine (c_impl_LevelsOk e d he (by omega) n) _ _ ?_|fail
     exact hQ _ _ (by omega) zero_is own_nil
   | true =>
     rw [typeOf, if_pos ⟨h1, h2⟩] at hQ
     have hz := tyZ_or e g n
     repeat' first|with_reducible intro _|simp only[h1, h2,Y1,Y2,Y3,Y4]|(with_reducible first|refine X1 ?_ ?_|refine X2 ?_ ?_|refine X3 ?_ ?_|refine X4 ?_ ?_|refine X5 ?_ ?_|refine X6 ?_ ?_|refine X7 ?_ ?_|refine X8 ?_ ?_|refine X9 ?_ ?_)|refine⟨_,_,_,rfl,?_⟩|refine⟨_,rfl,?_⟩|((with_reducible refine And.intro ?_ ?_);·first|omega|trivial|(show _=_;rfl)|((with_reducible refine And.intro ?_ ?_)<;>first|omega|trivial|(show _=_;rfl)))|refine (c_impl_IsCtx ctx hg a c) _ _ ?_|refine (c_impl_LevelsOk e d he (by omega) n) _ _ ?_|refine (c_typed e d he g es a c n (pre_of h1 h2 hc) ctx) _ _ ?_|fail
     rename_i hd ho _ _
     rcases hz with ⟨h3, h4⟩ | ⟨h3, h4⟩
     ·rw [h3] at hQ
      rw [h4] at hd
      obtain ⟨a2, es2, c2, rfl, hl2, he2⟩ := Ty.is_mk.1 hd
      repeat' first|with_reducible intro _|simp only[Y1,Y2,Y3,Y4]|(with_reducible first|refine X1 ?_ ?_|refine X2 ?_ ?_|refine X3 ?_ ?_|refine X4 ?_ ?_|refine X5 ?_ ?_|refine X6 ?_ ?_|refine X7 ?_ ?_|refine X8 ?_ ?_|refine X9 ?_ ?_)|refine⟨_,_,_,rfl,?_⟩|refine⟨_,rfl,?_⟩|((with_reducible refine And.intro ?_ ?_);·first|omega|trivial|(show _=_;rfl)|((with_reducible refine And.intro ?_ ?_)<;>first|omega|trivial|(show _=_;rfl)))|fail
      exact hQ _ _ (by omega) hd (Own.mono (by assumption) (by omega) (by omega))
     ·rw [h3] at hQ
      have hnz := Ty.valid_nz h4
      generalize tyZ e g n = z at *
      cases z with
      | mk k0 l0 =>
      have hd1 := hd
      obtain ⟨a2, es2, c2, rfl, hl2, he2⟩ := Ty.is_mk.1 hd
      repeat' first|with_reducible intro _|simp only[Y1,Y2,Y3,Y4]|(with_reducible first|refine X1 ?_ ?_|refine X2 ?_ ?_|refine X3 ?_ ?_|refine X4 ?_ ?_|refine X5 ?_ ?_|refine X6 ?_ ?_|refine X7 ?_ ?_|refine X8 ?_ ?_|refine X9 ?_ ?_)|refine⟨_,_,_,rfl,?_⟩|refine⟨_,rfl,?_⟩|((with_reducible refine And.intro ?_ ?_);·first|omega|trivial|(show _=_;rfl)|((with_reducible refine And.intro ?_ ?_)<;>first|omega|trivial|(show _=_;rfl)))|fail
      have hnz : (bne k0 0) = true := by simpa [Ty.k] using hnz
      rw [hnz]
      exact hQ _ _ (by omega) hd1 (Own.mono (by assumption) (by omega) (by omega))
end Go.Proofs.YtfkmegifjiiclaaGreat
