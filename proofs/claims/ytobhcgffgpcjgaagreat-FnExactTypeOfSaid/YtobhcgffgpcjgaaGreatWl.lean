/- The law FnExactTypeOf: for all data it answers true. -/
import Derived.Test.YtobhcgffgpcjgaaGreatVw
import Derived.Test.YtobhcgffgpcjgaaGreatVt
import Derived.Test.YtobhcgffgpcjgaaGreatKl
set_option linter.unusedVariables false
set_option linter.unusedSimpArgs false
namespace Go.Proofs.YtobhcgffgpcjgaaGreat
open Go Go.Proofs Go.Proofs.Tryz Go.IntWalk

mutual
theorem mkTy_cnt : ∀ (t : Ty) (k : Int), (mkTy t k).1.cnt = t.cnt
  | .mk kk l, k => by simp only [mkTy, Ty.cnt, mkTys_cnt l]
theorem mkTys_cnt : ∀ (l : List Ty) (k : Int), tysCnt (mkTys l k).1 = tysCnt l
  | [], k => rfl
  | t :: ts, k => by simp only [mkTys, tysCnt, mkTy_cnt t, mkTys_cnt ts]
end
theorem tgCnt_le {m : Nat} : ∀ {g : List Tg}, (∀ x ∈ g, x.ty.cnt ≤ m) → tgCnt g ≤ g.length * m
  | [], _ => by simp [tgCnt]
  | x :: g, h => by
    have h1 := tgCnt_le (g := g) fun y hy => h y (by simp [hy])
    have h2 := h x (by simp)
    simp only [tgCnt, List.length_cons, Nat.add_mul, Nat.one_mul]
    omega
theorem Ty.eta : ∀ t : Ty, t = .mk t.k t.as
  | .mk _ _ => rfl
theorem typeOf_cnt (g : List Tg) (e : Tm) (n : Int) : ((typeOf g e n).getD tZero).cnt ≤ 30 := by
  unfold typeOf
  split
  · exact type_cnt e g n
  · decide
theorem Own.tree {N N' : Nat} {d : D} (h : Own N N' d) : Tree d := ⟨h.nd, h.fl⟩
theorem Own.low {N N' M : Nat} {d : D} (h : Own N N' d) (hM : M ≤ N) : Low M d := ⟨fun b hb => Nat.le_trans hM (h.lo b hb)⟩
/-- blocks below a bound and blocks from it on -/
theorem apart_lo {N N' : Nat} {d x : D} (h : Own N N' d) (hx : Bel N x) : ∀ b ∈ d.foot, b ∉ x.foot := fun b hb hc => by
  have := h.lo b hb; have := hx b hc; omega
theorem apart_hi {N N' M M' : Nat} {d x : D} (h : Own N N' d) (hx : Own M M' x) (hM : N' ≤ M) : ∀ b ∈ d.foot, b ∉ x.foot := fun b hb hc => by
  have := h.hi b hb; have := hx.lo b hc; omega
theorem Bel.mono {N M : Nat} {x : D} (h : Bel N x) (hM : N ≤ M) : Bel M x := fun b hb => Nat.lt_of_lt_of_le (h b hb) hM
theorem Own.bel {N N' M : Nat} {d : D} (h : Own N N' d) (hM : N' ≤ M) : Bel M d := fun b hb => Nat.lt_of_lt_of_le (h.hi b hb) hM

theorem law_TypeOf {g : List Tg} {es : List D} {t : Tm} {d : D} (ctx : Ctx g es) (he : t.Is d) (a : Option Addr) (c : Nat) (n : Int) (N : Nat) :
    ACalls prog 3 [.bool] [.sv a 4 es c, .dg 9 d, .int .i64 n] N (fun r _ => r = true) := by
  refine w_laws_FnExactTypeOf N a es c d n _ fun hB0 hB1 N1 hN1 => ?_
  refine c_szTypingS ctx a c 1048576 (by omega) (by omega) N1 _ fun r N2 hN2 hr _ => Br.dec (fun _ N3 _ => rfl) fun hneg N4 hN4 => ?_
  obtain ⟨hr0, hr1, hgl, hgc⟩ := hr.resolve_left (by omega)
  refine c_szTerm t d he r (by omega) (by omega) N4 _ fun r2 N5 hN5 hr2 _ => Br.dec (fun _ N6 _ => rfl) fun hneg2 N7 hN7 => ?_
  obtain ⟨hq0, hq1, hcn⟩ := hr2.resolve_left (by omega)
  have hcn : t.cnt ≤ 3145731 := by omega
  have hgl : g.length ≤ 1048576 := by omega
  have hgc : ∀ x ∈ g, x.ty.cnt ≤ 1048577 := fun x hx => by have := hgc x hx; omega
  have hgc2 : ∀ x ∈ g, x.ty.cnt ≤ 1073741824 := fun x hx => by have := hgc x hx; omega
  have htg : tgCnt g ≤ 1048576 * 1048577 := Nat.le_trans (tgCnt_le hgc) (Nat.mul_le_mul_right _ hgl)
  have hgl2 : g.length ≤ 1073741824 := by omega
  have hcn2 : t.cnt ≤ 1073741824 := by omega
  have hcn3 : t.cnt ≤ 1048576000 / 2 := by omega
  clear hr hr2
  refine c_toTypingS ctx hgl2 hgc2 a c N7 _ fun a1 es1 c1 N8 hN8 ctx1 own1 _ _ N9 hN9 => ?_
  refine c_toTerm t d he hcn2 N9 _ fun d1 N10 hN10 he1 own2 _ _ N11 hN11 => ?_
  have hty := typeOf_cnt g t n
  have hSpec := c_spec_TypeOf ctx1 hgc2 he1 hcn3 a1 c1 n
  have hImpl := fun (es2 : List D) (d2 : D) (ctx2 : Ctx g es2) (he2 : t.Is d2) a2 c2 => c_impl_TypeOf ctx2 hgc2 he2 hcn3 a2 c2 n
  generalize typeOf g t n = o at hSpec hImpl hty
  refine hSpec N11 _ fun w0 N12 hN12 hw0 _ hBw N13 hN13 => ?_
  refine c_toTypingS ctx hgl2 hgc2 a c N13 _ fun a2 es2 c2 N14 hN14 ctx2 own3 _ _ N15 hN15 => ?_
  refine c_toTerm t d he hcn2 N15 _ fun d2 N16 hN16 he2 own4 _ _ N17 hN17 => ?_
  refine hImpl es2 d2 ctx2 he2 a2 c2 N17 _ fun g0 N18 hN18 hg0 own5 _ _ N19 hN19 => ?_
  refine c_eqT_same _ g0 w0 hg0 hw0 N19 _ fun N20 hN20 _ => Br.of (fun h => by simp at h) fun _ => Br.of (fun h => by simp at h) fun _ N23 hN23 => ?_
  refine c_toTypingS ctx hgl2 hgc2 a c N23 _ fun a3 es3 c3 N24 hN24 ctx3 _ _ _ N25 hN25 => ?_
  refine c_eqTypingS ctx2 ctx3 a2 a3 c2 c3 N25 _ fun N26 hN26 _ => Br.of (fun h => by simp at h) fun _ N28 hN28 => ?_
  refine c_toTerm t d he hcn2 N28 _ fun d4 N29 hN29 he4 _ _ _ N30 hN30 => ?_
  refine c_eqTerm t d2 d4 he2 he4 N30 _ fun N31 hN31 _ => Br.of (fun h => by simp at h) fun _ => ?_
  have B0 : ∀ M, N ≤ M → Bel M (.sl a 4 es c) := fun M h => hB0.mono h
  have B1 : ∀ M, N ≤ M → Bel M d := fun M h => hB1.mono h
  have d53 := apart_hi own3 own5 (by omega)
  have d54 := apart_hi own4 own5 (by omega)
  have d34 := apart_hi own3 own4 (by omega)
  refine ⟨own3.tree, own3.low (by omega), ⟨fun x hx => ?_⟩, fun N33 hN33 => ?_⟩
  · simp only [List.mem_cons, List.not_mem_nil, or_false] at hx
    rcases hx with rfl | rfl | rfl | rfl | rfl
    · exact apart_lo own3 (B0 _ (by omega))
    · exact apart_lo own3 (B1 _ (by omega))
    · exact apart_lo own3 (hBw.mono (by omega))
    · exact d34
    · exact d53
  refine c_markTypingS ctx2 a2 c2 own3.tree 1 (by omega) (by omega) N33 _ fun es5 k5 N34 hN34 hf5 hl5 hk5 hk5' _ => ?_
  refine ⟨own4.tree, own4.low (by omega), rfl, ⟨fun x hx => ?_⟩, fun N35 hN35 => ?_⟩
  · simp only [List.mem_cons, List.not_mem_nil, or_false] at hx
    rcases hx with rfl | rfl | rfl | rfl
    · exact apart_lo own4 (B0 _ (by omega))
    · exact apart_lo own4 (B1 _ (by omega))
    · exact apart_lo own4 (hBw.mono (by omega))
    · exact d54
  refine c_markTerm he2 own4.tree k5 (by omega) (by omega) N35 _ fun d6 k6 N36 hN36 hf6 hk6 hk6' _ => Br.dec (fun h => by omega) fun _ N38 hN38 => ?_
  refine c_eqT_same _ g0 w0 hg0 hw0 N38 _ fun N39 hN39 _ => Br.of (fun h => by simp at h) fun _ => Br.of (fun h => by simp at h) fun _ => ?_
  refine ⟨own5.tree, own5.low (by omega), rfl, ⟨fun x hx => ?_⟩, fun N42 hN42 => ?_⟩
  · simp only [List.mem_cons, List.not_mem_nil, or_false] at hx
    rcases hx with rfl | rfl | rfl | rfl
    · exact apart_lo own5 (B0 _ (by omega))
    · exact apart_lo own5 (B1 _ (by omega))
    · exact apart_lo own5 (hBw.mono (by omega))
    · rw [hf6]; exact fun b hb hc => d54 b hc hb
  obtain ⟨kk, l, hkl⟩ : ∃ kk l, o.getD tZero = .mk kk l := ⟨_, _, (Ty.eta _)⟩
  have hg0' := hg0
  rw [hkl] at hg0' hty
  obtain ⟨aG, esG, cG, rfl, hlG, hG⟩ := Ty.is_mk.1 hg0'
  simp only [Ty.cnt] at hty
  refine c_markType (all2_tys hG) hlG own5.tree 1 (by omega) (by omega) N42 _ fun esH N43 hN43 hH hfH hlH _ N44 hN44 => ?_
  have hm := hd_mks l 1 (by omega)
  have hk := mkTys_k l 1
  have hc := mkTys_cnt l 1
  have hheld := c_heldType (kk := kk) (a := aG) (c := cG) hH (by omega) 1 (by omega) (by omega)
  rw [hm] at hheld
  refine hheld N44 _ fun N45 hN45 _ => Br.dec (fun h => by omega) fun _ => Br.bne (fun h => absurd rfl h) fun _ N48 hN48 => ?_
  refine c_toTypingS ctx hgl2 hgc2 a c N48 _ fun a5 es5 c5 N49 hN49 ctx5 _ _ _ N50 hN50 => ?_
  refine c_toTerm t d he hcn2 N50 _ fun d7 N51 hN51 he7 _ _ _ N52 hN52 => ?_
  refine hImpl es5 d7 ctx5 he7 a5 c5 N52 _ fun g1 N53 hN53 hg1 _ _ _ N54 hN54 => ?_
  refine c_eqT_same _ g1 w0 hg1 hw0 N54 _ fun N55 hN55 _ => Br.of (fun h => by simp at h) fun _ => Br.of (fun h => by simp at h) fun _ N58 hN58 => ?_
  exact hheld N58 _ fun N59 hN59 _ => Br.dec (fun h => by omega) fun _ => Br.bne (fun h => absurd rfl h) fun _ N62 hN62 => rfl
end Go.Proofs.YtobhcgffgpcjgaaGreat
