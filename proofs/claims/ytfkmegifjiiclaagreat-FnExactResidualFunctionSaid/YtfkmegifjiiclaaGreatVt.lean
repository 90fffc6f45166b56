/- The program's TypeOf. -/
import Derived.Test.YtfkmegifjiiclaaGreatVs
set_option linter.unusedVariables false
set_option linter.unusedSimpArgs false
namespace Go.Proofs.YtfkmegifjiiclaaGreat
open Go Go.Proofs Go.Proofs.Tryz Go.IntWalk

theorem f4 {nm ot : ByteArray} {m n : Int} {ty re : Ty} {l : List Tm} {t0 t1 r0 r1 : D} {es1 : List D} {a1 a : Option Addr} {c1 c : Nat} {g : List Tg} {es : List D} (ih : IHi l) (hh : Tm.Hd nm ot ty re t0 t1 r0 r1) (h0 : All2 Tm.Is l es1) (hl1 : es1.length ≤ 4611686018427387904)
  (pre : Pre g (.mk 4 nm ot m ty re l) n) (ctx : Ctx g es) :
  zBE 160 [.sv a 4 es c, .dg 9 (zD8 4 nm ot m t0 t1 r0 r1 a1 es1 c1), .int .i64 n] ((Tm.raw (.mk 4 nm ot m ty re l) g n).getD tZero) := fun N Q hQ => by
 have hlen := pre.len
 have hcl := yT l
 have hln := h0.len
 simp only [Tm.cnt] at hlen
 have hop : 0 < zIx nm := by
  have := (za pre.ok).f
  simp only [yF, sq, Bool.and_eq_true] at this
  have := this.2.2.2.2.2
  simp at this
  exact this.1
 have hraw : (Tm.raw (.mk 4 nm ot m ty re l) g n).getD tZero = if zAY (qU nm) (l.map fun e => tyZ e g n) then zBH nm else tZero := by
  rw [← zQo hop]
  simp only [Tm.raw]
  rfl
 rw [hraw] at hQ
 have hn : zu 4 n = n := by simp [zu]
 have key : yQ Q N 0 0 es1.length (0 : Nat) (zD8 4 nm ot m t0 t1 r0 r1 a1 es1 c1) 0 none [] 0 a es c n [] 0 N := by
  refine up h0 hl1 (fun i xs => ∀ (r : List D) (q p : Nat) (N' : Nat) (ts : List Ty), N ≤ N' → p = r.length → All2 Ty.Is ts r → ts.length = i → (∀ b ∈ zA r, N ≤ b) → ts ++ (xs.map fun e => tyZ e g n) = (l.map fun e => tyZ e g n) →
   yQ Q N p q es1.length i (zD8 4 nm ot m t0 t1 r0 r1 a1 es1 c1) 0 none [] 0 a es c n r q N') ?_ ?_ [] 0 0 N [] (Nat.le_refl _) rfl rfl rfl (by simp [zA]) rfl
  ·intro i hlt hi r q p N' ts hN' hp hr hti hlo hts
   have hrl := hr.len
   simp only [List.map_nil, List.append_nil] at hts
   rw [← hts] at hQ
   refine uF _ _ _ _ _ _ _ _ _ _ _ _ _ _ _ _ _ _ ?_
   repeat' first|with_reducible intro _|simp only[hlt,Y1,Y2,Y3,Y4]|(with_reducible first|refine X1 ?_ ?_|refine X2 ?_ ?_|refine X3 ?_ ?_|refine X4 ?_ ?_|refine X5 ?_ ?_|refine X6 ?_ ?_|refine X7 ?_ ?_|refine X8 ?_ ?_|refine X9 ?_ ?_)|refine⟨_,_,_,rfl,?_⟩|refine⟨_,rfl,?_⟩|((with_reducible refine And.intro ?_ ?_);·first|omega|trivial|(show _=_;rfl)|((with_reducible refine And.intro ?_ ?_)<;>first|omega|trivial|(show _=_;rfl)))|refine (zNp hr (by omega) _ _ nm) _ _ ?_|(((with_reducible refine And.intro ?_ ?_); · exact tu (by assumption) (by assumption)))|fail
   exact hQ _ _ (by omega) (by assumption) (Own.mono (by assumption) (by omega) (by omega))
  ·intro i x xs hat _ ih2 r q p N' ts hN' hp hr hti hlo hts
   have hb := hat.b
   have hrl := hr.len
   refine uF _ _ _ _ _ _ _ _ _ _ _ _ _ _ _ _ _ _ ?_
   repeat' first|with_reducible intro _|simp only[hat.lt, hat.w, Int.toNat_natCast,Y1,Y2,Y3,Y4]|(with_reducible first|refine X1 ?_ ?_|refine X2 ?_ ?_|refine X3 ?_ ?_|refine X4 ?_ ?_|refine X5 ?_ ?_|refine X6 ?_ ?_|refine X7 ?_ ?_|refine X8 ?_ ?_|refine X9 ?_ ?_)|refine⟨_,_,_,rfl,?_⟩|refine⟨_,rfl,?_⟩|((with_reducible refine And.intro ?_ ?_);·first|omega|trivial|(show _=_;rfl)|((with_reducible refine And.intro ?_ ?_)<;>first|omega|trivial|(show _=_;rfl)))|refine (zC0 hn ih h0 hl1 pre ctx i hat.g _ _ _) _ _ ?_|(((with_reducible refine And.intro ?_ ?_); · exact tu (by assumption) (by assumption)))|fail
   all_goals first | (exfalso; omega) | skip
   rename_i hd ho _ _
   refine ⟨by unfold zB; simp only [List.length_append, List.length_singleton]; omega, fun c2 => ih2 _ _ _ _ (ts ++ [tyZ x g n]) (by omega) rfl (hr.snoc hd) (by simp [hti]) (fun b hb => ?_) (by simpa using hts)⟩
   rw [zC] at hb
   rcases List.mem_append.1 hb with hb | hb
   ·exact hlo b hb
   ·simp only [zA, List.append_nil] at hb
    have := ho.lo b hb
    omega
 refine zT N a es c _ n Q fun _ _ => ⟨_, rfl, ?_⟩
 repeat' first|with_reducible intro _|simp only[Y1,Y2,Y3,Y4]|(with_reducible first|refine X1 ?_ ?_|refine X2 ?_ ?_|refine X3 ?_ ?_|refine X4 ?_ ?_|refine X5 ?_ ?_|refine X6 ?_ ?_|refine X7 ?_ ?_|refine X8 ?_ ?_|refine X9 ?_ ?_)|refine⟨_,_,_,rfl,?_⟩|refine⟨_,rfl,?_⟩|((with_reducible refine And.intro ?_ ?_);·first|omega|trivial|(show _=_;rfl)|((with_reducible refine And.intro ?_ ?_)<;>first|omega|trivial|(show _=_;rfl)))|fail
 all_goals first | (exfalso; omega) | exact key
theorem f1 {nm ot : ByteArray} {m n : Int} {ty re : Ty} {l : List Tm} {t0 t1 r0 r1 : D} {es1 : List D} {a1 a : Option Addr} {c1 c : Nat} {g : List Tg} {es : List D}
  (pre : Pre g (.mk 1 nm ot m ty re l) n) (ctx : Ctx g es) :
  zBE 160 [.sv a 4 es c, .dg 9 (zD8 1 nm ot m t0 t1 r0 r1 a1 es1 c1), .int .i64 n] ((Tm.raw (.mk 1 nm ot m ty re l) g n).getD tZero) := fun N Q hQ => by
 have hl2 := ctx.all.len
 have hraw : Tm.raw (.mk 1 nm ot m ty re l) g n = rp g nm n := by simp [Tm.raw]
 rw [hraw] at hQ
 refine zT N a es c _ n Q fun _ _ => ⟨_, rfl, ?_⟩
 rcases zCR g nm g.length with hlx | hlx
 ·have hlx : yB g nm = -1 := hlx
  have : rp g nm n = none := by simp [rp, hlx]
  rw [this] at hQ
  repeat' first|with_reducible intro _|simp only[hlx,Y1,Y2,Y3,Y4]|(with_reducible first|refine X1 ?_ ?_|refine X2 ?_ ?_|refine X3 ?_ ?_|refine X4 ?_ ?_|refine X5 ?_ ?_|refine X6 ?_ ?_|refine X7 ?_ ?_|refine X8 ?_ ?_|refine X9 ?_ ?_)|refine⟨_,_,_,rfl,?_⟩|refine⟨_,rfl,?_⟩|((with_reducible refine And.intro ?_ ?_);·first|omega|trivial|(show _=_;rfl)|((with_reducible refine And.intro ?_ ?_)<;>first|omega|trivial|(show _=_;rfl)))|refine (zAZ ctx a c nm) _ _ ?_|fail
  all_goals first | (exfalso; omega) | skip
  exact hQ _ _ (by omega) yo yA
 ·have hlx : 0 ≤ yB g nm ∧ yB g nm < g.length := hlx
  have hg : g[(yB g nm).toNat]? = some g[(yB g nm).toNat] := List.getElem?_eq_getElem (by omega)
  have hx := ctx.all.get hg
  have hgd : g.getD (yB g nm).toNat tg0 = g[(yB g nm).toNat] := zFf hg
  obtain ⟨u0, u1, hd, hs, ht⟩ := hx
  have hm : g[(yB g nm).toNat] ∈ g := List.getElem_mem _
  have hcn := pre.ty _ hm
  have : rp g nm n = if g[(yB g nm).toNat].lv = n then some g[(yB g nm).toNat].ty else none := by
   rw [rp, if_neg (by omega), hgd]
  rw [this] at hQ
  generalize g[(yB g nm).toNat] = x at *
  repeat' first|with_reducible intro _|simp only[hd,Y1,Y2,Y3,Y4]|(with_reducible first|refine X1 ?_ ?_|refine X2 ?_ ?_|refine X3 ?_ ?_|refine X4 ?_ ?_|refine X5 ?_ ?_|refine X6 ?_ ?_|refine X7 ?_ ?_|refine X8 ?_ ?_|refine X9 ?_ ?_)|refine⟨_,_,_,rfl,?_⟩|refine⟨_,rfl,?_⟩|((with_reducible refine And.intro ?_ ?_);·first|omega|trivial|(show _=_;rfl)|((with_reducible refine And.intro ?_ ?_)<;>first|omega|trivial|(show _=_;rfl)))|refine (zAZ ctx a c nm) _ _ ?_|refine (zDb _ _ ht (by omega)) _ _ ?_|fail
  all_goals first | (exfalso; omega) | skip
  ·rw [if_pos (by assumption)] at hQ; exact hQ _ _ (by omega) (by assumption) (Own.mono (by assumption) (by omega) (by omega))
  ·rw [if_neg (by assumption)] at hQ; exact hQ _ _ (by omega) yo yA
theorem zLC {e : Tm} {d : D} (he : e.Is d) (ih : match e with | .mk _ _ _ _ _ _ l => IHi l) {g : List Tg} {es : List D} (a : Option Addr) (c : Nat) {n : Int} (pre : Pre g e n) (ctx : Ctx g es) :
  zBE 160 [.sv a 4 es c, .dg 9 d, .int .i64 n] ((e.raw g n).getD tZero) := by
 cases e with
 | mk k nm ot m ty re l =>
 dsimp only at ih
 obtain ⟨t0, t1, r0, r1, a1, es1, c1, rfl, hh, hlen1, hes1⟩ := Tm.is_mk.1 he
 have nd := za pre.ok
 have har := nd.ar
 have hkk := zIp (k := k) (nm := nm) (by omega)
 rcases hkk with rfl | rfl | rfl | rfl | rfl | rfl | rfl | rfl | rfl | h | h | h | h
 ·exact f1 pre ctx
 ·intro N Q hQ
  have hraw : Tm.raw (.mk 2 nm ot m ty re l) g n = some tInt := by simp [Tm.raw]
  rw [hraw] at hQ
  refine zT N a es c _ n Q fun _ _ => ⟨_, rfl, ?_⟩
  repeat' first|with_reducible intro _|simp only[Y1,Y2,Y3,Y4]|(with_reducible first|refine X1 ?_ ?_|refine X2 ?_ ?_|refine X3 ?_ ?_|refine X4 ?_ ?_|refine X5 ?_ ?_|refine X6 ?_ ?_|refine X7 ?_ ?_|refine X8 ?_ ?_|refine X9 ?_ ?_)|refine⟨_,_,_,rfl,?_⟩|refine⟨_,rfl,?_⟩|((with_reducible refine And.intro ?_ ?_);·first|omega|trivial|(show _=_;rfl)|((with_reducible refine And.intro ?_ ?_)<;>first|omega|trivial|(show _=_;rfl)))|refine zLj _ _ ?_|fail
  all_goals first | (exfalso; omega) | skip
  exact hQ _ _ (by omega) (by assumption) (Own.mono (by assumption) (by omega) (by omega))
 ·intro N Q hQ
  have hraw : Tm.raw (.mk 3 nm ot m ty re l) g n = some tBool := by simp [Tm.raw]
  rw [hraw] at hQ
  refine zT N a es c _ n Q fun _ _ => ⟨_, rfl, ?_⟩
  repeat' first|with_reducible intro _|simp only[Y1,Y2,Y3,Y4]|(with_reducible first|refine X1 ?_ ?_|refine X2 ?_ ?_|refine X3 ?_ ?_|refine X4 ?_ ?_|refine X5 ?_ ?_|refine X6 ?_ ?_|refine X7 ?_ ?_|refine X8 ?_ ?_|refine X9 ?_ ?_)|refine⟨_,_,_,rfl,?_⟩|refine⟨_,rfl,?_⟩|((with_reducible refine And.intro ?_ ?_);·first|omega|trivial|(show _=_;rfl)|((with_reducible refine And.intro ?_ ?_)<;>first|omega|trivial|(show _=_;rfl)))|refine zFZ _ _ ?_|fail
  all_goals first | (exfalso; omega) | skip
  exact hQ _ _ (by omega) (by assumption) (Own.mono (by assumption) (by omega) (by omega))
 ·exact f4 ih hh hes1 hlen1 pre ctx
 ·exact f5 ih hh hes1 hlen1 pre ctx
 ·exact f6 ih hh hes1 hlen1 pre ctx
 ·exact f7 ih hh hes1 hlen1 pre ctx
 ·exact f8 ih hh hes1 hlen1 pre ctx
 ·exact f9 ih hh hes1 hlen1 pre ctx
 all_goals
  intro N Q hQ
  have hk : k = 10 ∨ k = 11 ∨ k = 12 ∨ k = 13 := by omega
  refine zT N a es c _ n Q fun _ _ => ⟨_, rfl, ?_⟩
  repeat' first|with_reducible intro _|simp only[Y1,Y2,Y3,Y4]|(with_reducible first|refine X1 ?_ ?_|refine X2 ?_ ?_|refine X3 ?_ ?_|refine X4 ?_ ?_|refine X5 ?_ ?_|refine X6 ?_ ?_|refine X7 ?_ ?_|refine X8 ?_ ?_|refine X9 ?_ ?_)|refine⟨_,_,_,rfl,?_⟩|refine⟨_,rfl,?_⟩|((with_reducible refine And.intro ?_ ?_);·first|omega|trivial|(show _=_;rfl)|((with_reducible refine And.intro ?_ ?_)<;>first|omega|trivial|(show _=_;rfl)))|refine (fS hk ih hh hes1 hlen1 pre ctx) _ _ ?_|fail
  all_goals first | (exfalso; omega) | skip
  exact hQ _ _ (by omega) (by assumption) (Own.mono (by assumption) (by omega) (by omega))
theorem zOS (e : Tm) (g : List Tg) (n : Int) : tyZ e g n = if ((e.raw g n).getD tZero).valid then (e.raw g n).getD tZero else tZero := by
 rw [tyZ, Tm.type_eq]
 cases e.raw g n with
 | none => rfl
 | some t =>
   simp only [vld, Option.getD_some]
   split <;> rfl
theorem zI0 : ∀ (e : Tm), ∀ d, e.Is d → ∀ g es a c n, Pre g e n → Ctx g es → zBE 120 [.sv a 4 es c, .dg 9 d, .int .i64 n] (tyZ e g n) := by
 refine Tm.ind fun k nm ot m ty re l ih d hd g es a c n pre ctx N Q hQ => ?_
 have hs := zLC hd ih a c pre ctx
 rw [zOS] at hQ
 have hc : ((Tm.raw (.mk k nm ot m ty re l) g n).getD tZero).cnt ≤ 64 := by
  cases h : Tm.raw (.mk k nm ot m ty re l) g n with
  | none => simp [tZero, Ty.cnt, zH]
  | some t => simpa using zMC pre h
 generalize (Tm.raw (.mk k nm ot m ty re l) g n).getD tZero = z at *
 refine zIB N a es c _ n Q fun _ _ => ?_
 repeat' first|with_reducible intro _|simp only[Y1,Y2,Y3,Y4]|(with_reducible first|refine X1 ?_ ?_|refine X2 ?_ ?_|refine X3 ?_ ?_|refine X4 ?_ ?_|refine X5 ?_ ?_|refine X6 ?_ ?_|refine X7 ?_ ?_|refine X8 ?_ ?_|refine X9 ?_ ?_)|refine⟨_,_,_,rfl,?_⟩|refine⟨_,rfl,?_⟩|((with_reducible refine And.intro ?_ ?_);·first|omega|trivial|(show _=_;rfl)|((with_reducible refine And.intro ?_ ?_)<;>first|omega|trivial|(show _=_;rfl)))|refine hs _ _ ?_|refine (xB z _ (by assumption) (by omega)) _ _ ?_|fail
 all_goals first
  | exact hQ _ _ (by omega) (by rw [if_pos (by assumption)]; assumption) (Own.mono (by assumption) (by omega) (by omega))
  | exact hQ _ _ (by omega) (by rw [if_neg (by simp [*])]; exact yo) yA
/-- returns this type and true, or the zero type and false, in memory of its own -/
def zQb (f : FuncId) (args : List PV) (o : Option Ty) : Prop := ∀ (N : Nat) (Q : QT [.ag 2, .bool]), (∀ d N', N ≤ N' → (o.getD tZero).Is d → Own N N' d → Q d o.isSome N') → ACalls prog f [.ag 2, .bool] args N Q
theorem zG8 {g : List Tg} {es : List D} (ctx : Ctx g es) (hg : ∀ x ∈ g, x.ty.cnt ≤ 1073741824) {e : Tm} {d : D} (he : e.Is d) (hc : e.cnt ≤ 1048576000 / 2) (a : Option Addr) (c : Nat) (n : Int) :
  zQb 100 [.sv a 4 es c, .dg 9 d, .int .i64 n] (zFE g e n) := fun N Q hQ => by
 refine zFe N a es c d n Q fun _ _ => ?_
 cases h1 : zGf g with
 | false =>
   rw [zFE, if_neg (by simp [h1])] at hQ
   repeat' first|with_reducible intro _|simp only[h1,Y1,Y2,Y3,Y4]|(with_reducible first|refine X1 ?_ ?_|refine X2 ?_ ?_|refine X3 ?_ ?_|refine X4 ?_ ?_|refine X5 ?_ ?_|refine X6 ?_ ?_|refine X7 ?_ ?_|refine X8 ?_ ?_|refine X9 ?_ ?_)|refine⟨_,_,_,rfl,?_⟩|refine⟨_,rfl,?_⟩|((with_reducible refine And.intro ?_ ?_);·first|omega|trivial|(show _=_;rfl)|((with_reducible refine And.intro ?_ ?_)<;>first|omega|trivial|(show _=_;rfl)))|refine (s5 ctx hg a c) _ _ ?_|fail
   exact hQ _ _ (by omega) yo yA
 | true =>
   cases h2 : zJC e n with
   | false =>
     rw [zFE, if_neg (by simp [h2])] at hQ
     repeat' first|with_reducible intro _|simp only[h1, h2,Y1,Y2,Y3,Y4]|(with_reducible first|refine X1 ?_ ?_|refine X2 ?_ ?_|refine X3 ?_ ?_|refine X4 ?_ ?_|refine X5 ?_ ?_|refine X6 ?_ ?_|refine X7 ?_ ?_|refine X8 ?_ ?_|refine X9 ?_ ?_)|refine⟨_,_,_,rfl,?_⟩|refine⟨_,rfl,?_⟩|((with_reducible refine And.intro ?_ ?_);·first|omega|trivial|(show _=_;rfl)|((with_reducible refine And.intro ?_ ?_)<;>first|omega|trivial|(show _=_;rfl)))|refine (s5 ctx hg a c) _ _ ?_|refine (rR e d he (by omega) n) _ _ ?_|fail
     exact hQ _ _ (by omega) yo yA
   | true =>
     rw [zFE, if_pos ⟨h1, h2⟩] at hQ
     have hz := uk e g n
     repeat' first|with_reducible intro _|simp only[h1, h2,Y1,Y2,Y3,Y4]|(with_reducible first|refine X1 ?_ ?_|refine X2 ?_ ?_|refine X3 ?_ ?_|refine X4 ?_ ?_|refine X5 ?_ ?_|refine X6 ?_ ?_|refine X7 ?_ ?_|refine X8 ?_ ?_|refine X9 ?_ ?_)|refine⟨_,_,_,rfl,?_⟩|refine⟨_,rfl,?_⟩|((with_reducible refine And.intro ?_ ?_);·first|omega|trivial|(show _=_;rfl)|((with_reducible refine And.intro ?_ ?_)<;>first|omega|trivial|(show _=_;rfl)))|refine (s5 ctx hg a c) _ _ ?_|refine (rR e d he (by omega) n) _ _ ?_|refine (zI0 e d he g es a c n (zPo h1 h2 hc) ctx) _ _ ?_|fail
     rename_i hd ho _ _
     rcases hz with ⟨h3, h4⟩ | ⟨h3, h4⟩
     ·rw [h3] at hQ
      rw [h4] at hd
      obtain ⟨a2, es2, c2, rfl, hl2, he2⟩ := Ty.is_mk.1 hd
      repeat' first|with_reducible intro _|simp only[Y1,Y2,Y3,Y4]|(with_reducible first|refine X1 ?_ ?_|refine X2 ?_ ?_|refine X3 ?_ ?_|refine X4 ?_ ?_|refine X5 ?_ ?_|refine X6 ?_ ?_|refine X7 ?_ ?_|refine X8 ?_ ?_|refine X9 ?_ ?_)|refine⟨_,_,_,rfl,?_⟩|refine⟨_,rfl,?_⟩|((with_reducible refine And.intro ?_ ?_);·first|omega|trivial|(show _=_;rfl)|((with_reducible refine And.intro ?_ ?_)<;>first|omega|trivial|(show _=_;rfl)))|fail
      exact hQ _ _ (by omega) hd (Own.mono (by assumption) (by omega) (by omega))
     ·rw [h3] at hQ
      have hnz := Ty.valid_nz h4
      generalize tyZ e g n = z at *
      cases z with
      | mk k0 l0 =>
      have hd1 := hd
      obtain ⟨a2, es2, c2, rfl, hl2, he2⟩ := Ty.is_mk.1 hd
      repeat' first|with_reducible intro _|simp only[Y1,Y2,Y3,Y4]|(with_reducible first|refine X1 ?_ ?_|refine X2 ?_ ?_|refine X3 ?_ ?_|refine X4 ?_ ?_|refine X5 ?_ ?_|refine X6 ?_ ?_|refine X7 ?_ ?_|refine X8 ?_ ?_|refine X9 ?_ ?_)|refine⟨_,_,_,rfl,?_⟩|refine⟨_,rfl,?_⟩|((with_reducible refine And.intro ?_ ?_);·first|omega|trivial|(show _=_;rfl)|((with_reducible refine And.intro ?_ ?_)<;>first|omega|trivial|(show _=_;rfl)))|fail
      have hnz : (bne k0 0) = true := by simpa [Ty.k] using hnz
      rw [hnz]
      exact hQ _ _ (by omega) hd1 (Own.mono (by assumption) (by omega) (by omega))
end Go.Proofs.YtfkmegifjiiclaaGreat
