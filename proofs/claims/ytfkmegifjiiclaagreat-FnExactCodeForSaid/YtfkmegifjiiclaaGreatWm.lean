/- Printed by gen.py: what the functions come to. -/
import Derived.Test.YtfkmegifjiiclaaGreatJh
set_option linter.unusedVariables false
set_option maxRecDepth 100000
namespace Go.Proofs.YtfkmegifjiiclaaGreat
open Go Go.Proofs Go.Proofs.Tryz
def H_laws_szParam : Hint := ⟨[], [], [(4, hs 5 [ec 3 [13]])]⟩
def H_laws_szParamS : Hint := ⟨[hc 5 [0, 1, 5]], [], [(7, hs 7 [ec 5 [21]])]⟩
def H_laws_toParam : Hint := ⟨[], [], [(3, hs 5 [ec 2 [8]])]⟩
def H_laws_toParamS : Hint := ⟨[hc 3 [0, 3, 4]], [], [(5, hs 9 [ec 6 [19]])]⟩
def H_laws_eqParam : Hint := ⟨[], [], [(3, hs 6 [ec 4 [11, 13]])]⟩
def H_laws_eqParamS : Hint := ⟨[hc 4 [0, 1, 5]], [], [(6, [en 0, en 1, en 2, en 3, en 4, en 5, en 6, en 7, ec 8 [20, 24], en 9])]⟩
def H_laws_markParamS : Hint := ⟨[hc 2 [0, 1, 5]], [], [(8, hs 9 [em 7 (some 32) [0, 1, 5]])]⟩
def L_laws_szParamS_5 (Q : QT [.int .i64]) (N0 : Nat) (a0 : Option Addr) (e0 : List D) (c0 : Nat) (n1 n5 : Int) (N : Nat) : Prop := AT prog 9 [.int .i64] Q N0 .ord (loopAt prog 9 5) ⟨.sv a0 4 e0 c0 :: .int .i64 n1 :: an 3 (.int .i64 n5 :: an 21 []), [], N, none⟩
def L_laws_toParamS_3 (Q : QT [.sl 4]) (N0 : Nat) (a0 : Option Addr) (e0 : List D) (c0 m3 c3 : Nat) (n4 : Int) (r0 : List D) (q0 : Nat) (N : Nat) : Prop := AT prog 12 [.sl 4] Q N0 .ord (loopAt prog 12 3) ⟨.sv a0 4 e0 c0 :: an 2 (.sb 0 4 0 m3 c3 :: .int .i64 n4 :: an 18 []), [.arr 71 4 r0 q0], N, none⟩
def L_laws_eqParamS_4 (Q : QT [.bool]) (N0 : Nat) (a0 : Option Addr) (e0 : List D) (c0 : Nat) (a1 : Option Addr) (e1 : List D) (c1 : Nat) (n5 : Int) (N : Nat) : Prop := AT prog 16 [.bool] Q N0 .ord (loopAt prog 16 4) ⟨.sv a0 4 e0 c0 :: .sv a1 4 e1 c1 :: an 3 (.int .i64 n5 :: an 21 []), [], N, none⟩
def L_laws_markParamS_2 (Q : QT [.int .i64]) (N0 : Nat) (a0 : Option Addr) (e0 : List D) (c0 : Nat) (n1 n5 : Int) (N : Nat) : Prop := AT prog 17 [.int .i64] Q N0 .ord (loopAt prog 17 2) ⟨.sv a0 4 e0 c0 :: .int .i64 n1 :: an 3 (.int .i64 n5 :: an 40 []), [], N, none⟩
def L_laws_markParamS_2_v1 (T : List Nat) (b0 : Nat) (QM : Int → D → Nat → Prop) (N0 : Nat) (m0 c0 : Nat) (n1 n5 : Int) (t0 : Nat) (r0 : List D) (q0 : Nat) (N : Nat) : Prop := AT prog 17 [] noQ N0 (.mk T (some b0) (4, 0) QM) (loopAt prog 17 2) ⟨.sb 0 4 0 m0 c0 :: .int .i64 n1 :: an 3 (.int .i64 n5 :: an 40 []), [.arr t0 4 r0 q0], N, some ([some b0], T)⟩
theorem w_laws_szParam (N : Nat) (x0 : D) (n1 : Int) (Q : QT [.int .i64]) (h :
Bel N x0 → ∃ s, (x0.cell 0) = D.lit (.string s) ∧ Br (decide (IntKind.i64.wrap (n1 - (s.size : Int)) < 0)) (∀ N1, N ≤ N1 → Q (-1) N1) (∀ N2, N ≤ N2 → ACalls
 prog 37 [.int .i64] [.dg 2 (D.sub x0 1 2), .int .i64 (IntKind.i64.wrap (n1 - (s.size : Int)))] N2 (fun n N3 => N2 ≤ N3 → Br (decide (n < 0)) (∀ N4, N3 ≤ N4
 → Q (-1) N4) (∀ N5, N3 ≤ N5 → Q n N5)))) : ACalls prog 36 [.int .i64] [PV.dg 4 x0, PV.int .i64 n1] N Q :=
  eE (H := H_laws_szParam) (by kernel_rfl) (by kernel_rfl) h
theorem w_laws_szParamS (N : Nat) (a0 : Option Addr) (e0 : List D) (c0 : Nat) (n1 : Int) (Q : QT [.int .i64]) (h :
Bel N (D.sl a0 4 e0 c0) → Br (decide (IntKind.i64.wrap (n1 - (e0.length : Int)) < 0)) (∀ N1, N ≤ N1 → Q (-1) N1) (L_laws_szParamS_5 Q N a0 e0 c0 (IntKind.i64.wrap
 (n1 - (e0.length : Int))) 0 N)) : ACalls prog 9 [.int .i64] [PV.sv a0 4 e0 c0, PV.int .i64 n1] N Q :=
  eE (H := H_laws_szParamS) (by kernel_rfl) (by kernel_rfl) h
theorem w_laws_toParam (N : Nat) (x0 : D) (Q : QT [.ag 4]) (h :
Bel N x0 → ∃ s, (x0.cell 0) = D.lit (.string s) ∧ ∀ N1, N ≤ N1 → ACalls prog 43 [.ag 2] [.dg 2 (D.sub x0 1 2)] N1 (fun x N2 => N1 ≤ N2 → Bel N2 x → ∃ b :
 Bool, (x0.cell 3) = D.lit (.bool b) ∧ ∀ N3, N2 ≤ N3 → Q (D.ag [D.lit (.string s), (x.cell 0), (x.cell 1), D.lit (.bool b)]) N3)) : ACalls prog 42 [.ag 4] [PV.dg 4 x0] N Q :=
  eE (H := H_laws_toParam) (by kernel_rfl) (by kernel_rfl) h
theorem w_laws_toParamS (N : Nat) (a0 : Option Addr) (e0 : List D) (c0 : Nat) (Q : QT [.sl 4]) (h :
Bel N (D.sl a0 4 e0 c0) → (0 ≤ (e0.length : Int) ∧ (e0.length : Int) ≤ (e0.length : Int) ∧ (56 * (e0.length : Int)) ≤ 140737488355328 ∧ (e0.length : Int) ≤ 9223372036854775807)
 ∧ L_laws_toParamS_3 Q N a0 e0 c0 ((e0.length : Int)).toNat ((e0.length : Int)).toNat 0 (List.replicate ((e0.length : Int)).toNat (D.ag [D.lit (.string (bytes [])),
 D.lit (.int .i64 0), D.sl Option.none 2 [] 0, D.lit (.bool false)])) ((e0.length : Int)).toNat N) : ACalls prog 12 [.sl 4] [PV.sv a0 4 e0 c0] N Q :=
  eE (H := H_laws_toParamS) (by kernel_rfl) (by kernel_rfl) h
theorem w_laws_eqParam (N : Nat) (x0 x1 : D) (Q : QT [.bool]) (h :
Bel N x0 → Bel N x1 → ∃ s, (x0.cell 0) = D.lit (.string s) ∧ ∃ s_1, (x1.cell 0) = D.lit (.string s_1) ∧ Br (!(ByteArray.toList s == ByteArray.toList s_1)) (∀ N1,
 N ≤ N1 → Q false N1) (∀ N2, N ≤ N2 → ACalls prog 48 [.bool] [.dg 2 (D.sub x0 1 2), .dg 2 (D.sub x1 1 2)] N2 (fun b N3 => N2 ≤ N3 → Br (!b) (∀ N4, N3 ≤
 N4 → Q false N4) (∃ b_1 : Bool, (x0.cell 3) = D.lit (.bool b_1) ∧ ∃ b_2 : Bool, (x1.cell 3) = D.lit (.bool b_2) ∧ Br (!(b_1 == b_2)) (∀ N5, N3 ≤ N5 → Q false
 N5) (∀ N6, N3 ≤ N6 → Q true N6))))) : ACalls prog 49 [.bool] [PV.dg 4 x0, PV.dg 4 x1] N Q :=
  eE (H := H_laws_eqParam) (by kernel_rfl) (by kernel_rfl) h
theorem w_laws_eqParamS (N : Nat) (a0 : Option Addr) (e0 : List D) (c0 : Nat) (a1 : Option Addr) (e1 : List D) (c1 : Nat) (Q : QT [.bool]) (h :
Bel N (D.sl a0 4 e0 c0) → Bel N (D.sl a1 4 e1 c1) → Br (bne (e0.length : Int) (e1.length : Int)) (∀ N1, N ≤ N1 → Q false N1) (L_laws_eqParamS_4 Q N a0 e0 c0 a1
 e1 c1 0 N)) : ACalls prog 16 [.bool] [PV.sv a0 4 e0 c0, PV.sv a1 4 e1 c1] N Q :=
  eE (H := H_laws_eqParamS) (by kernel_rfl) (by kernel_rfl) h
theorem w_laws_markParamS (N : Nat) (a0 : Option Addr) (e0 : List D) (c0 : Nat) (n1 : Int) (Q : QT [.int .i64]) (h :
Bel N (D.sl a0 4 e0 c0) → L_laws_markParamS_2 Q N a0 e0 c0 n1 0 N) : ACalls prog 17 [.int .i64] [PV.sv a0 4 e0 c0, PV.int .i64 n1] N Q :=
 eE (H := H_laws_markParamS) (by kernel_rfl) (by kernel_rfl) h
theorem m_laws_markParamS (N : Nat) (ad : Addr) (e0 : List D) (c0 : Nat) (n1 : Int) (R : D → Int → Nat → Prop) (QM : Int → D → Nat → Prop) (htree : Tree (.sl (some ad) 4 e0 c0)) (hne : e0 ≠ []) (hlen : e0.length ≤ maxLen) (h : ∀ t : Nat,
L_laws_markParamS_2_v1 (D.foot (D.sl (Option.some ad) 4 e0 c0)) (Addr.block ad) QM N e0.length c0 n1 0 t e0 e0.length N)
  (hQ : ∀ k x N, QM k x N → ∃ es, x = .ag es ∧ es.length = e0.length ∧ footL es = footL e0 ∧ R (.sl (some ad) 4 es c0) k N) : MC prog 17 (.sl (some ad) 4 e0 c0) n1 N R :=
 mcsE (sh := sh) (H := H_laws_markParamS) (fuel := 400) (by kernel_rfl) (by kernel_rfl) (fun t => by kernel_rfl) htree hne hlen h hQ
theorem l_laws_szParamS_5 (Q : QT [.int .i64]) (N0 : Nat) (a0 : Option Addr) (e0 : List D) (c0 : Nat) (n1 n5 : Int) (N : Nat) (h :
Br (decide (n5 < (e0.length : Int))) ((0 ≤ n5 ∧ n5 < (e0.length : Int)) ∧ ∀ N1, N ≤ N1 → ACalls prog 36 [.int .i64] [.dg 4 (List.getD e0 n5.toNat default), .int
 .i64 n1] N1 (fun n N2 => N1 ≤ N2 → Br (decide (n < 0)) (∀ N3, N2 ≤ N3 → Q (-1) N3) (L_laws_szParamS_5 Q N0 a0 e0 c0 n (IntKind.i64.wrap (n5 + 1)) N2)))
 (∀ N4, N ≤ N4 → Q n1 N4)) : L_laws_szParamS_5 Q N0 a0 e0 c0 n1 n5 N :=
  hE (H := H_laws_szParamS) (by kernel_rfl) h
theorem l_laws_toParamS_3 (Q : QT [.sl 4]) (N0 : Nat) (a0 : Option Addr) (e0 : List D) (c0 m3 c3 : Nat) (n4 : Int) (r0 : List D) (q0 : Nat) (N : Nat) (h :
Br (decide (n4 < (e0.length : Int))) ((0 ≤ n4 ∧ n4 < (e0.length : Int)) ∧ ∀ N1, N ≤ N1 → ACalls prog 42 [.ag 4] [.dg 4 (List.getD e0 n4.toNat default)] N1 (fun
 x N2 => N1 ≤ N2 → Bel N2 x → (0 ≤ n4 ∧ n4 < (m3 : Int) ∧ (0 + n4.toNat : Nat) < r0.length) ∧ (0 + n4.toNat : Nat) < r0.length ∧ L_laws_toParamS_3 Q N0 a0 e0
 c0 m3 c3 (IntKind.i64.wrap (n4 + 1)) (List.set r0 (0 + n4.toNat : Nat) x) q0 N2)) ((m3 = r0.length ∧ c3 = q0) ∧ (m3 = r0.length ∧ c3 = q0) ∧ (m3 = r0.length ∧ c3
 = q0) ∧ ∀ a N3, N ≤ N3 → Fresh N0 N3 a [D.ag r0] → ∀ N4, N3 ≤ N4 → Q a r0 q0 N4)) : L_laws_toParamS_3 Q N0 a0 e0 c0 m3 c3 n4 r0 q0 N :=
  hE (H := H_laws_toParamS) (by kernel_rfl) h
theorem l_laws_eqParamS_4 (Q : QT [.bool]) (N0 : Nat) (a0 : Option Addr) (e0 : List D) (c0 : Nat) (a1 : Option Addr) (e1 : List D) (c1 : Nat) (n5 : Int) (N : Nat) (h :
Br (decide (n5 < (e0.length : Int))) ((0 ≤ n5 ∧ n5 < (e0.length : Int)) ∧ (0 ≤ n5 ∧ n5 < (e1.length : Int)) ∧ ∀ N1, N ≤ N1 → ACalls prog 49 [.bool] [.dg 4 (List.getD
 e0 n5.toNat default), .dg 4 (List.getD e1 n5.toNat default)] N1 (fun b N2 => N1 ≤ N2 → Br (!b) (∀ N3, N2 ≤ N3 → Q false N3) (L_laws_eqParamS_4 Q N0 a0 e0
 c0 a1 e1 c1 (IntKind.i64.wrap (n5 + 1)) N2))) (∀ N4, N ≤ N4 → Q true N4)) : L_laws_eqParamS_4 Q N0 a0 e0 c0 a1 e1 c1 n5 N :=
  hE (H := H_laws_eqParamS) (by kernel_rfl) h
theorem l_laws_markParamS_2 (Q : QT [.int .i64]) (N0 : Nat) (a0 : Option Addr) (e0 : List D) (c0 : Nat) (n1 n5 : Int) (N : Nat) (h :
Br (decide (n5 < (e0.length : Int))) (∀ N1, N ≤ N1 → ACalls prog 50 [.str] [.int .i64 n1] N1 (fun s N2 => N1 ≤ N2 → (0 ≤ n5 ∧ n5 < (e0.length : Int)) ∧ False))
 (∀ N3, N ≤ N3 → Q n1 N3)) : L_laws_markParamS_2 Q N0 a0 e0 c0 n1 n5 N :=
  hE (H := H_laws_markParamS) (by kernel_rfl) h
theorem l_laws_markParamS_2_v1 (T : List Nat) (b0 : Nat) (QM : Int → D → Nat → Prop) (N0 : Nat) (m0 c0 : Nat) (n1 n5 : Int) (t0 : Nat) (r0 : List D) (q0 : Nat) (N : Nat) (h :
Br (decide (n5 < (m0 : Int))) (∀ N1, N ≤ N1 → ACalls prog 50 [.str] [.int .i64 n1] N1 (fun s => let r_1 : List D := (List.set r0 (0 + n5.toNat : Nat) (D.ag (putD
 0 [D.lit (.string s)] (D.cells (List.getD r0 (0 + n5.toNat : Nat) default))))); let r_2 : List D := (List.set r_1 (0 + n5.toNat : Nat) (D.ag (putD 1 [D.lit (.int
 .i64 (IntKind.i64.wrap (n1 + 1)))] (D.cells (List.getD r_1 (0 + n5.toNat : Nat) default))))); fun N2 => N1 ≤ N2 → (0 ≤ n5 ∧ n5 < (m0 : Int) ∧ (0 + n5.toNat :
 Nat) < r0.length) ∧ (0 + n5.toNat : Nat) < r0.length ∧ (0 ≤ n5 ∧ n5 < (m0 : Int) ∧ (0 + n5.toNat : Nat) < r_1.length) ∧ (0 + n5.toNat : Nat) < r_1.length ∧ (0 ≤
 n5 ∧ n5 < (m0 : Int) ∧ (0 + n5.toNat : Nat) < r_2.length) ∧ (0 + n5.toNat : Nat) < r_2.length ∧ ∃ a es, ∃ c : Nat, D.cell (List.getD r_2 (0 + n5.toNat : Nat) default)
 2 = D.sl a 2 es c ∧ Tree (D.sl a 2 es c) ∧ In T (D.sl a 2 es c) ∧ (0 + n5.toNat : Nat) < r_2.length ∧ 2 < (D.cells (List.getD r_2 (0 + n5.toNat : Nat) default)).length
 ∧ D.cell (List.getD r_2 (0 + n5.toNat : Nat) default) 2 = D.sl a 2 es c ∧ Once r_2 ∧ Dis (D.sl a 2 es c) [] ∧ ∀ N3, N2 ≤ N3 → MC prog 51 (D.sl a 2 es c) (IntKind.i64.wrap
 (IntKind.i64.wrap (n1 + 1) + 1)) N3 (fun x => let r_3 : List D := (List.set r_2 (0 + n5.toNat : Nat) (D.ag (putD 2 [x] (D.cells (List.getD r_2 (0 + n5.toNat : Nat)
 default))))); fun n N4 => N3 ≤ N4 → (3 : Int) ≠ (0 : Int) ∧ (0 ≤ n5 ∧ n5 < (m0 : Int) ∧ (0 + n5.toNat : Nat) < r_3.length) ∧ (0 + n5.toNat : Nat) < r_3.length
 ∧ L_laws_markParamS_2_v1 T b0 QM N0 m0 c0 (IntKind.i64.wrap (n + 1)) (IntKind.i64.wrap (n5 + 1)) t0 (List.set r_3 (0 + n5.toNat : Nat) (D.ag (putD 3 [D.lit (.bool
 (Int.tmod n 3 == 0))] (D.cells (List.getD r_3 (0 + n5.toNat : Nat) default))))) q0 N4))) (b0 = b0 ∧ ∀ N5, N ≤ N5 → QM n1 (D.ag r0) N5)) : L_laws_markParamS_2_v1 T b0 QM N0 m0 c0 n1 n5 t0 r0 q0 N :=
  hE (H := H_laws_markParamS) (by kernel_rfl) h

end Go.Proofs.YtfkmegifjiiclaaGreat

/- Printed by gen.py: what the functions come to. -/
set_option linter.unusedVariables false
set_option maxRecDepth 100000
namespace Go.Proofs.YtfkmegifjiiclaaGreat
open Go Go.Proofs Go.Proofs.Tryz
def H_impl_AreParams : Hint := ⟨[hc 5 [3, 11, 12, 13]], [], [(7, hs 18 [ec 7 [24]])]⟩
def H_impl_BodyType : Hint := ⟨[hc 6 [3, 4, 7, 26, 27, 28] [(7, 97, 4)]], [], [(1, hs 3 [ec 1 [10]]), (2, hs 12 [ec 5 [16]]), (10, hs 7 [ec 2 [42]])]⟩
def H_impl_DepthOf : Hint := ⟨[hc 3 [3, 7, 8, 9]], [], [(5, hs 5 [ec 2 [14]])]⟩
def H_impl_IndexOf : Hint := ⟨[], [], []⟩
def H_impl_IsValidTerm : Hint := ⟨[], [], [(1, hs 13 [ec 1 [3], ec 4 [6], ec 9 [11]])]⟩
def H_impl_SizeOf : Hint := ⟨[hc 3 [3, 7, 8, 9]], [], [(5, hs 5 [ec 2 [14]])]⟩
def H_impl_paramNames : Hint := ⟨[hc 3 [3, 7, 8, 9] [(3, 9, 0)]], [], []⟩
def H_spec_AreParams : Hint := ⟨[hc 3 [0, 3, 4] [(3, 9, 0)]], [], [(5, hs 26 [ec 13 [24]])]⟩
def H_spec_BodyType : Hint := ⟨[], [], [(1, hs 13 [ec 5 [12], ec 10 [17]]), (3, [en 0, en 2, en 7, eh 1, ec 3 [25], en 4, en 5, en 6, eh 8, en 9])]⟩
def H_spec_DepthOf : Hint := ⟨[hc 3 [1, 3, 4]], [], [(5, hs 9 [ec 6 [17]])]⟩
def H_spec_IndexOf : Hint := ⟨[hc 2 [0, 1, 5]], [], []⟩
def H_spec_IsValidTerm : Hint := ⟨[], [], [(1, hs 13 [ec 1 [3], ec 5 [7], ec 10 [12]])]⟩
def H_spec_l15Ctx : Hint := ⟨[hc 3 [0, 3, 4] [(3, 97, 4)]], [], [(5, [en 0, en 1, en 2, en 3, en 4, en 5, en 6, en 7, en 8, en 9, en 10, en 11, en 12, eh 13, eh 14])]⟩
def H_spec_l15Is : Hint := ⟨[hc 2 [1, 3]], [], [(4, hs 7 [ec 5 [15]])]⟩
def H_spec_l5Left : Hint := ⟨[hc 3 [1, 2, 5]], [], [(5, hs 8 [ec 6 [23]])]⟩
def H_impl_allTermsb : Hint := ⟨[], [], [(1, hs 11 [ec 2 [6]])]⟩
def H_slices_ContainsFunc_Termb : Hint := ⟨[], [], []⟩
def H_slices_IndexFunc_Termb : Hint := ⟨[hc 2 [0, 1, 7, 8]], [], [(4, hs 6 [ec 5 [15]])]⟩
def H_impl_allTerms_1b : Hint := ⟨[], [], [(1, hs 5 [ec 2 [4]])]⟩
def L_impl_AreParams_5 (Q : QT [.bool]) (N0 : Nat) (a3 : Option Addr) (e3 : List D) (c3 : Nat) (a11 : Option Addr) (e11 : List D) (c11 : Nat) (n12 n13 : Int) (N : Nat) : Prop := AT prog 98 [.bool] Q N0 .ord (loopAt prog 98 5) ⟨an 3 (.sv a3 0 e3 c3 :: an 7 (.sv a11 4 e11 c11 :: .int .i64 n12 :: .int .i64 n13 :: an 23 [])), [], N, none⟩
def L_impl_BodyType_6 (Q : QT [.ag 2, .bool]) (N0 : Nat) (m7 c7 : Nat) (a26 : Option Addr) (e26 : List D) (c26 : Nat) (n27 n28 : Int) (y0 : D) (n1_0 : Int) (a1_1 : Option Addr) (e1_1 : List D) (c1_1 : Nat) (r2 : List D) (q2 : Nat) (N : Nat) : Prop := AT prog 45 [.ag 2, .bool] Q N0 .ord (loopAt prog 45 6) ⟨an 3 (.pb 0 0 0 0 :: .pb 1 0 0 0 :: an 2 (.sb 2 4 0 m7 c7 :: an 18 (.sv a26 4 e26 c26 :: .int .i64 n27 :: .int .i64 n28 :: an 17 []))), [.vd y0 9, .var [.int .i64 n1_0, .sv a1_1 2 e1_1 c1_1], .arr 97 4 r2 q2], N, none⟩
def L_impl_DepthOf_3 (Q : QT [.int .i64]) (N0 : Nat) (n3 : Int) (a7 : Option Addr) (e7 : List D) (c7 : Nat) (n8 n9 : Int) (N : Nat) : Prop := AT prog 147 [.int .i64] Q N0 .ord (loopAt prog 147 3) ⟨an 3 (.int .i64 n3 :: an 3 (.sv a7 9 e7 c7 :: .int .i64 n8 :: .int .i64 n9 :: an 10 [])), [], N, none⟩
def L_impl_SizeOf_3 (Q : QT [.int .i64]) (N0 : Nat) (n3 : Int) (a7 : Option Addr) (e7 : List D) (c7 : Nat) (n8 n9 : Int) (N : Nat) : Prop := AT prog 57 [.int .i64] Q N0 .ord (loopAt prog 57 3) ⟨an 3 (.int .i64 n3 :: an 3 (.sv a7 9 e7 c7 :: .int .i64 n8 :: .int .i64 n9 :: an 9 [])), [], N, none⟩
def L_impl_paramNames_3 (Q : QT [.sl 0]) (N0 : Nat) (m3 c3 : Nat) (a7 : Option Addr) (e7 : List D) (c7 : Nat) (n8 n9 : Int) (r0 : List D) (q0 : Nat) (N : Nat) : Prop := AT prog 77 [.sl 0] Q N0 .ord (loopAt prog 77 3) ⟨an 3 (.sb 0 0 0 m3 c3 :: an 3 (.sv a7 4 e7 c7 :: .int .i64 n8 :: .int .i64 n9 :: an 10 [])), [.arr 9 0 r0 q0], N, none⟩
def L_spec_AreParams_3 (Q : QT [.bool]) (N0 : Nat) (a0 : Option Addr) (e0 : List D) (c0 m3 c3 : Nat) (n4 : Int) (r0 : List D) (q0 : Nat) (N : Nat) : Prop := AT prog 85 [.bool] Q N0 .ord (loopAt prog 85 3) ⟨.sv a0 4 e0 c0 :: an 2 (.sb 0 0 0 m3 c3 :: .int .i64 n4 :: an 44 []), [.arr 9 0 r0 q0], N, none⟩
def L_spec_DepthOf_3 (Q : QT [.int .i64]) (N0 : Nat) (n3 n4 : Int) (y0 : D) (N : Nat) : Prop := AT prog 138 [.int .i64] Q N0 .ord (loopAt prog 138 3) ⟨an 1 (.pb 0 0 0 0 :: an 1 (.int .i64 n3 :: .int .i64 n4 :: an 17 [])), [.vd y0 9], N, none⟩
def L_spec_IndexOf_2 (Q : QT [.int .i64]) (N0 : Nat) (a0 : Option Addr) (e0 : List D) (c0 : Nat) (s1 : ByteArray) (n5 : Int) (N : Nat) : Prop := AT prog 136 [.int .i64] Q N0 .ord (loopAt prog 136 2) ⟨.sv a0 0 e0 c0 :: .str s1 :: an 3 (.int .i64 n5 :: an 13 []), [], N, none⟩
def L_spec_l15Ctx_3 (Q : QT [.sl 4]) (N0 : Nat) (a0 : Option Addr) (e0 : List D) (c0 m3 c3 : Nat) (n4 : Int) (r0 : List D) (q0 : Nat) (N : Nat) : Prop := AT prog 61 [.sl 4] Q N0 .ord (loopAt prog 61 3) ⟨.sv a0 4 e0 c0 :: an 2 (.sb 0 4 0 m3 c3 :: .int .i64 n4 :: an 22 []), [.arr 97 4 r0 q0], N, none⟩
def L_spec_l15Is_2 (Q : QT [.bool]) (N0 : Nat) (n3 : Int) (y0 : D) (N : Nat) : Prop := AT prog 87 [.bool] Q N0 .ord (loopAt prog 87 2) ⟨an 1 (.pb 0 0 0 0 :: an 1 (.int .i64 n3 :: an 22 [])), [.vd y0 9], N, none⟩
def L_spec_l5Left_3 (Q : QT [.int .i64]) (N0 : Nat) (n1 n5 : Int) (y0 : D) (N : Nat) : Prop := AT prog 137 [.int .i64] Q N0 .ord (loopAt prog 137 3) ⟨an 1 (.int .i64 n1 :: .pb 0 0 0 0 :: an 2 (.int .i64 n5 :: an 21 [])), [.vd y0 9], N, none⟩
def L_slices_IndexFunc_Term_2b (Q : QT [.int .i64]) (N0 : Nat) (a0 : Option Addr) (e0 : List D) (c0 : Nat) (a1_0 : Addr) (n7 n8 : Int) (N : Nat) : Prop := AT prog 132 [.int .i64] Q N0 .ord (loopAt prog 132 2) ⟨.sv a0 9 e0 c0 :: .fn 142 [.pd a1_0 0 (.fn 96 [])] :: an 5 (.int .i64 n7 :: .int .i64 n8 :: an 10 []), [], N, none⟩
theorem w_impl_AreParams (N : Nat) (a0 : Option Addr) (e0 : List D) (c0 : Nat) (Q : QT [.bool]) (h :
Bel N (D.sl a0 4 e0 c0) → Br (decide ((e0.length : Int) > 5)) (∀ N1, N ≤ N1 → Q false N1) (∀ N2, N ≤ N2 → ACalls prog 77 [.sl 0] [.sv a0 4 e0 c0] N2 (fun a
 es c N3 => N2 ≤ N3 → Bel N3 (D.sl a 0 es c) → L_impl_AreParams_5 Q N a es c a0 e0 c0 (e0.length : Int) 0 N3))) : ACalls prog 98 [.bool] [PV.sv a0 4 e0 c0] N Q :=
  eE (H := H_impl_AreParams) (by kernel_rfl) (by kernel_rfl) h
theorem w_impl_BodyType (N : Nat) (a0 : Option Addr) (e0 : List D) (c0 : Nat) (x1 : D) (Q : QT [.ag 2, .bool]) (h :
Bel N (D.sl a0 4 e0 c0) → Bel N x1 → ∀ N1, N ≤ N1 → ACalls prog 95 [.bool] [.dg 9 x1, .fn 96 []] N1 (fun b N2 => N1 ≤ N2 → ∀ N3, N2 ≤ N3 → ACalls prog 98
 [.bool] [.sv a0 4 e0 c0] N3 (fun b_1 N4 => N3 ≤ N4 → Br (!b_1) (∀ N5, N4 ≤ N5 → Q (D.ag [D.lit (.int .i64 0), D.sl Option.none 2 [] 0]) false N5) (∀ N6,
 N4 ≤ N6 → ACalls prog 99 [.bool] [.dg 9 x1] N6 (fun b_2 N7 => N6 ≤ N7 → Br (!b_2) (∀ N8, N7 ≤ N8 → Q (D.ag [D.lit (.int .i64 0), D.sl Option.none 2 [] 0])
 false N8) (Br (!b) (∀ N9, N7 ≤ N9 → Q (D.ag [D.lit (.int .i64 0), D.sl Option.none 2 [] 0]) false N9) (L_impl_BodyType_6 Q N 0 0 a0 e0 c0 (e0.length : Int)
 0 x1 0 Option.none [] 0 [] 0 N7))))))) : ACalls prog 45 [.ag 2, .bool] [PV.sv a0 4 e0 c0, PV.dg 9 x1] N Q :=
  eE (H := H_impl_BodyType) (by kernel_rfl) (by kernel_rfl) h
theorem w_impl_DepthOf (N : Nat) (x0 : D) (Q : QT [.int .i64]) (h :
Bel N x0 → ∃ a es, ∃ c : Nat, (x0.cell 8) = D.sl a 9 es c ∧ L_impl_DepthOf_3 Q N 0 a es c (es.length : Int) 0 N) : ACalls prog 147 [.int .i64] [PV.dg 9 x0] N Q :=
 eE (H := H_impl_DepthOf) (by kernel_rfl) (by kernel_rfl) h
theorem w_impl_IndexOf (N : Nat) (a0 : Option Addr) (e0 : List D) (c0 : Nat) (s1 : ByteArray) (Q : QT [.int .i64]) (h :
Bel N (D.sl a0 0 e0 c0) → ∀ N1, N ≤ N1 → ACalls prog 186 [.int .i64] [.sv a0 0 e0 c0, .str s1] N1 (fun n N2 => N1 ≤ N2 → ∀ N3, N2 ≤ N3 → Q n N3)) : ACalls prog 145 [.int .i64] [PV.sv a0 0 e0 c0, PV.str s1] N Q :=
 eE (H := H_impl_IndexOf) (by kernel_rfl) (by kernel_rfl) h
theorem w_impl_IsValidTerm (N : Nat) (x0 : D) (Q : QT [.bool]) (h :
Bel N x0 → ∀ N1, N ≤ N1 → ACalls prog 146 [.bool] [.dg 9 x0] N1 (fun b N2 => N1 ≤ N2 → Br b (∀ N3, N2 ≤ N3 → ACalls prog 57 [.int .i64] [.dg 9 x0] N3 (fun
 n N4 => N3 ≤ N4 → Br (decide (n ≤ 80)) (∀ N5, N4 ≤ N5 → ACalls prog 147 [.int .i64] [.dg 9 x0] N5 (fun n_1 N6 => N5 ≤ N6 → ∀ N7, N6 ≤ N7 → Q (decide
 (n_1 ≤ 20)) N7)) (∀ N8, N4 ≤ N8 → Q false N8))) (∀ N9, N2 ≤ N9 → Q false N9))) : ACalls prog 99 [.bool] [PV.dg 9 x0] N Q :=
  eE (H := H_impl_IsValidTerm) (by kernel_rfl) (by kernel_rfl) h
theorem w_impl_SizeOf (N : Nat) (x0 : D) (Q : QT [.int .i64]) (h :
Bel N x0 → ∃ a es, ∃ c : Nat, (x0.cell 8) = D.sl a 9 es c ∧ L_impl_SizeOf_3 Q N 1 a es c (es.length : Int) 0 N) : ACalls prog 57 [.int .i64] [PV.dg 9 x0] N Q :=
 eE (H := H_impl_SizeOf) (by kernel_rfl) (by kernel_rfl) h
theorem w_impl_paramNames (N : Nat) (a0 : Option Addr) (e0 : List D) (c0 : Nat) (Q : QT [.sl 0]) (h :
Bel N (D.sl a0 4 e0 c0) → L_impl_paramNames_3 Q N 0 0 a0 e0 c0 (e0.length : Int) 0 [] 0 N) : ACalls prog 77 [.sl 0] [PV.sv a0 4 e0 c0] N Q :=
 eE (H := H_impl_paramNames) (by kernel_rfl) (by kernel_rfl) h
theorem w_spec_AreParams (N : Nat) (a0 : Option Addr) (e0 : List D) (c0 : Nat) (Q : QT [.bool]) (h :
Bel N (D.sl a0 4 e0 c0) → L_spec_AreParams_3 Q N a0 e0 c0 0 0 0 [] 0 N) : ACalls prog 85 [.bool] [PV.sv a0 4 e0 c0] N Q :=
 eE (H := H_spec_AreParams) (by kernel_rfl) (by kernel_rfl) h
theorem w_spec_BodyType (N : Nat) (a0 : Option Addr) (e0 : List D) (c0 : Nat) (x1 : D) (Q : QT [.ag 2, .bool]) (h :
Bel N (D.sl a0 4 e0 c0) → Bel N x1 → ∀ N1, N ≤ N1 → ACalls prog 85 [.bool] [.sv a0 4 e0 c0] N1 (fun b N2 => N1 ≤ N2 → Br (!b) (∀ N3, N2 ≤ N3 → Q (D.ag [D.lit
 (.int .i64 0), D.sl Option.none 2 [] 0]) false N3) (∀ N4, N2 ≤ N4 → ACalls prog 86 [.bool] [.dg 9 x1] N4 (fun b_1 N5 => N4 ≤ N5 → Br (!b_1) (∀ N6, N5 ≤
 N6 → Q (D.ag [D.lit (.int .i64 0), D.sl Option.none 2 [] 0]) false N6) (∀ N7, N5 ≤ N7 → ACalls prog 87 [.bool] [.dg 9 x1] N7 (fun b_2 N8 => N7 ≤ N8 → Br
 (!b_2) (∀ N9, N8 ≤ N9 → Q (D.ag [D.lit (.int .i64 0), D.sl Option.none 2 [] 0]) false N9) (∀ N10, N8 ≤ N10 → ACalls prog 61 [.sl 4] [.sv a0 4 e0 c0] N10
 (fun a es c N11 => N10 ≤ N11 → Bel N11 (D.sl a 4 es c) → ∀ N12, N11 ≤ N12 → ACalls prog 88 [.ag 2, .bool] [.sv a 4 es c, .dg 9 x1, .int .i64 0] N12 (fun
 x b_3 N13 => N12 ≤ N13 → Bel N13 x → ∀ N14, N13 ≤ N14 → Q x b_3 N14))))))))) : ACalls prog 39 [.ag 2, .bool] [PV.sv a0 4 e0 c0, PV.dg 9 x1] N Q :=
  eE (H := H_spec_BodyType) (by kernel_rfl) (by kernel_rfl) h
theorem w_spec_DepthOf (N : Nat) (x0 : D) (Q : QT [.int .i64]) (h :
Bel N x0 → L_spec_DepthOf_3 Q N 0 0 x0 N) : ACalls prog 138 [.int .i64] [PV.dg 9 x0] N Q :=
 eE (H := H_spec_DepthOf) (by kernel_rfl) (by kernel_rfl) h
theorem w_spec_IndexOf (N : Nat) (a0 : Option Addr) (e0 : List D) (c0 : Nat) (s1 : ByteArray) (Q : QT [.int .i64]) (h :
Bel N (D.sl a0 0 e0 c0) → L_spec_IndexOf_2 Q N a0 e0 c0 s1 0 N) : ACalls prog 136 [.int .i64] [PV.sv a0 0 e0 c0, PV.str s1] N Q :=
 eE (H := H_spec_IndexOf) (by kernel_rfl) (by kernel_rfl) h
theorem w_spec_IsValidTerm (N : Nat) (x0 : D) (Q : QT [.bool]) (h :
Bel N x0 → ∀ N1, N ≤ N1 → ACalls prog 137 [.int .i64] [.dg 9 x0, .int .i64 80] N1 (fun n N2 => N1 ≤ N2 → Br (decide (n ≥ 0)) (∀ N3, N2 ≤ N3 → ACalls prog
 138 [.int .i64] [.dg 9 x0] N3 (fun n_1 N4 => N3 ≤ N4 → Br (decide (n_1 ≤ 20)) (∀ N5, N4 ≤ N5 → ACalls prog 139 [.bool] [.dg 9 x0] N5 (fun b N6 => N5 ≤
 N6 → ∀ N7, N6 ≤ N7 → Q b N7)) (∀ N8, N4 ≤ N8 → Q false N8))) (∀ N9, N2 ≤ N9 → Q false N9))) : ACalls prog 86 [.bool] [PV.dg 9 x0] N Q :=
  eE (H := H_spec_IsValidTerm) (by kernel_rfl) (by kernel_rfl) h
theorem w_spec_l15Ctx (N : Nat) (a0 : Option Addr) (e0 : List D) (c0 : Nat) (Q : QT [.sl 4]) (h :
Bel N (D.sl a0 4 e0 c0) → L_spec_l15Ctx_3 Q N a0 e0 c0 0 0 0 [] 0 N) : ACalls prog 61 [.sl 4] [PV.sv a0 4 e0 c0] N Q :=
 eE (H := H_spec_l15Ctx) (by kernel_rfl) (by kernel_rfl) h
theorem w_spec_l15Is (N : Nat) (x0 : D) (Q : QT [.bool]) (h :
Bel N x0 → L_spec_l15Is_2 Q N 0 x0 N) : ACalls prog 87 [.bool] [PV.dg 9 x0] N Q :=
 eE (H := H_spec_l15Is) (by kernel_rfl) (by kernel_rfl) h
theorem w_spec_l5Left (N : Nat) (x0 : D) (n1 : Int) (Q : QT [.int .i64]) (h :
Bel N x0 → L_spec_l5Left_3 Q N (IntKind.i64.wrap (n1 - 1)) 0 x0 N) : ACalls prog 137 [.int .i64] [PV.dg 9 x0, PV.int .i64 n1] N Q :=
 eE (H := H_spec_l5Left) (by kernel_rfl) (by kernel_rfl) h
theorem l_impl_AreParams_5 (Q : QT [.bool]) (N0 : Nat) (a3 : Option Addr) (e3 : List D) (c3 : Nat) (a11 : Option Addr) (e11 : List D) (c11 : Nat) (n12 n13 : Int) (N : Nat) (h :
Br (decide (n13 < n12)) ((0 ≤ n13 ∧ n13 < (e11.length : Int)) ∧ ∃ s, D.cell (List.getD e11 n13.toNat default) 0 = D.lit (.string s) ∧ ∀ N1, N ≤ N1 → ACalls prog
 143 [.bool] [.str s] N1 (fun b N2 => N1 ≤ N2 → Br (!b) (∀ N3, N2 ≤ N3 → Q false N3) (∀ N4, N2 ≤ N4 → ACalls prog 144 [.bool] [.dg 2 (D.sub (List.getD
 e11 n13.toNat default) 1 2)] N4 (fun b_1 N5 => N4 ≤ N5 → Br (!b_1) (∀ N6, N5 ≤ N6 → Q false N6) (∃ s_1, D.cell (List.getD e11 n13.toNat default) 0 = D.lit
 (.string s_1) ∧ ∀ N7, N5 ≤ N7 → ACalls prog 145 [.int .i64] [.sv a3 0 e3 c3, .str s_1] N7 (fun n N8 => N7 ≤ N8 → Br (bne n n13) (∀ N9, N8 ≤ N9 → Q false
 N9) (L_impl_AreParams_5 Q N0 a3 e3 c3 a11 e11 c11 n12 (IntKind.i64.wrap (n13 + 1)) N8))))))) (∀ N10, N ≤ N10 → Q true N10)) : L_impl_AreParams_5 Q N0 a3 e3 c3 a11 e11 c11 n12 n13 N :=
  hE (H := H_impl_AreParams) (by kernel_rfl) h
theorem w_impl_allTerms_i0b (N : Nat) (x0 : D) (Q : QT [.bool]) (h :
Bel N x0 → ∀ N1, N ≤ N1 → ACalls prog 96 [.bool] [.dg 9 x0] N1 (fun b N2 => N1 ≤ N2 → Br b (∃ a es, ∃ c : Nat, (x0.cell 8) = D.sl a 9 es c ∧ ∀ ad, ApA (Option.some
 ad) [D.fn (OfNat.ofNat 96) []] → Off [Option.some ad] (D.sl a 9 es c) → ∀ N3, N2 ≤ N3 → BelA N3 [Option.some ad] → ACalls prog 80 [.bool] [.sv a 9 es c, .fn
 142 [.pd ad 0 (.fn 96 [])]] N3 (fun b_1 N4 => N3 ≤ N4 → ∀ N5, N4 ≤ N5 → Q (!b_1) N5)) (∀ N6, N2 ≤ N6 → Q false N6))) : ACalls prog 95 [.bool] [.dg 9 x0, .fn 96 []] N Q :=
  eE (H := H_impl_allTermsb) (by kernel_rfl) (by kernel_rfl) h
theorem l_impl_BodyType_6 (Q : QT [.ag 2, .bool]) (N0 : Nat) (m7 c7 : Nat) (a26 : Option Addr) (e26 : List D) (c26 : Nat) (n27 n28 : Int) (y0 : D) (n1_0 : Int) (a1_1 : Option Addr) (e1_1 : List D) (c1_1 : Nat) (r2 : List D) (q2 : Nat) (N : Nat) (h :
Br (decide (n28 < n27)) ((0 ≤ n28 ∧ n28 < (e26.length : Int)) ∧ ∃ s, D.cell (List.getD e26 n28.toNat default) 0 = D.lit (.string s) ∧ (m7 = r2.length ∧ c7 = q2)
 ∧ apBound r2 [D.ag [D.lit (.string s), D.cell (D.sub (List.getD e26 n28.toNat default) 1 2) 0, D.cell (D.sub (List.getD e26 n28.toNat default) 1 2) 1, D.lit (.int
 .i64 0)]] 56 ∧ ∀ (c : Nat), L_impl_BodyType_6 Q N0 (r2 ++ [D.ag [D.lit (.string s), D.cell (D.sub (List.getD e26 n28.toNat default) 1 2) 0, D.cell (D.sub (List.getD
 e26 n28.toNat default) 1 2) 1, D.lit (.int .i64 0)]]).length c a26 e26 c26 n27 (IntKind.i64.wrap (n28 + 1)) y0 n1_0 a1_1 e1_1 c1_1 (r2 ++ [D.ag [D.lit (.string s),
 D.cell (D.sub (List.getD e26 n28.toNat default) 1 2) 0, D.cell (D.sub (List.getD e26 n28.toNat default) 1 2) 1, D.lit (.int .i64 0)]]) c N) ((m7 = r2.length ∧ c7
 = q2) ∧ ∀ a, ApA a r2 → Off [a] y0 → ∀ N1, N ≤ N1 → BelA N1 [a] → ACalls prog 100 [.ag 2, .bool] [.sv a 4 r2 c7, .dg 9 y0, .int .i64 0] N1 (fun x b N2 => N1
 ≤ N2 → Off [a] x ∧ (Bel N2 x → ∀ N3, N2 ≤ N3 → Q x b N3)))) : L_impl_BodyType_6 Q N0 m7 c7 a26 e26 c26 n27 n28 y0 n1_0 a1_1 e1_1 c1_1 r2 q2 N :=
  hE (H := H_impl_BodyType) (by kernel_rfl) h
theorem l_impl_DepthOf_3 (Q : QT [.int .i64]) (N0 : Nat) (n3 : Int) (a7 : Option Addr) (e7 : List D) (c7 : Nat) (n8 n9 : Int) (N : Nat) (h :
Br (decide (n9 < n8)) ((0 ≤ n9 ∧ n9 < (e7.length : Int)) ∧ ∀ N1, N ≤ N1 → ACalls prog 147 [.int .i64] [.dg 9 (List.getD e7 n9.toNat default)] N1 (fun n N2 =>
 N1 ≤ N2 → L_impl_DepthOf_3 Q N0 (if n > n3 then n else n3) a7 e7 c7 n8 (IntKind.i64.wrap (n9 + 1)) N2)) (∀ N3, N ≤ N3 → Q (IntKind.i64.wrap (n3 + 1)) N3)) : L_impl_DepthOf_3 Q N0 n3 a7 e7 c7 n8 n9 N :=
  hE (H := H_impl_DepthOf) (by kernel_rfl) h
theorem l_impl_SizeOf_3 (Q : QT [.int .i64]) (N0 : Nat) (n3 : Int) (a7 : Option Addr) (e7 : List D) (c7 : Nat) (n8 n9 : Int) (N : Nat) (h :
Br (decide (n9 < n8)) ((0 ≤ n9 ∧ n9 < (e7.length : Int)) ∧ ∀ N1, N ≤ N1 → ACalls prog 57 [.int .i64] [.dg 9 (List.getD e7 n9.toNat default)] N1 (fun n N2 =>
 N1 ≤ N2 → L_impl_SizeOf_3 Q N0 (IntKind.i64.wrap (n3 + n)) a7 e7 c7 n8 (IntKind.i64.wrap (n9 + 1)) N2)) (∀ N3, N ≤ N3 → Q n3 N3)) : L_impl_SizeOf_3 Q N0 n3 a7 e7 c7 n8 n9 N :=
  hE (H := H_impl_SizeOf) (by kernel_rfl) h
theorem l_impl_paramNames_3 (Q : QT [.sl 0]) (N0 : Nat) (m3 c3 : Nat) (a7 : Option Addr) (e7 : List D) (c7 : Nat) (n8 n9 : Int) (r0 : List D) (q0 : Nat) (N : Nat) (h :
Br (decide (n9 < n8)) ((0 ≤ n9 ∧ n9 < (e7.length : Int)) ∧ ∃ s, D.cell (List.getD e7 n9.toNat default) 0 = D.lit (.string s) ∧ (m3 = r0.length ∧ c3 = q0) ∧ apBound
 r0 [D.lit (.string s)] 16 ∧ ∀ (c : Nat), L_impl_paramNames_3 Q N0 (r0 ++ [D.lit (.string s)]).length c a7 e7 c7 n8 (IntKind.i64.wrap (n9 + 1)) (r0 ++ [D.lit (.string
 s)]) c N) ((m3 = r0.length ∧ c3 = q0) ∧ (m3 = r0.length ∧ c3 = q0) ∧ (m3 = r0.length ∧ c3 = q0) ∧ ∀ a N1, N ≤ N1 → Fresh N0 N1 a [D.ag r0] → ∀ N2, N1 ≤ N2
 → Q a r0 q0 N2)) : L_impl_paramNames_3 Q N0 m3 c3 a7 e7 c7 n8 n9 r0 q0 N :=
  hE (H := H_impl_paramNames) (by kernel_rfl) h
theorem l_spec_AreParams_3 (Q : QT [.bool]) (N0 : Nat) (a0 : Option Addr) (e0 : List D) (c0 m3 c3 : Nat) (n4 : Int) (r0 : List D) (q0 : Nat) (N : Nat) (h :
Br (decide (n4 < (e0.length : Int))) ((0 ≤ n4 ∧ n4 < (e0.length : Int)) ∧ ∃ s, (if 0 = 0 then D.cell (List.getD e0 n4.toNat default) 0 else D.sub (List.getD e0 n4.toNat
 default) 0 0) = D.lit (.string s) ∧ ∀ N1, N ≤ N1 → ACalls prog 134 [.bool] [.str s] N1 (fun b N2 => N1 ≤ N2 → Br (!b) (∀ N3, N2 ≤ N3 → Q false N3) ((0
 ≤ n4 ∧ n4 < (e0.length : Int)) ∧ ∀ N4, N2 ≤ N4 → ACalls prog 135 [.bool] [.dg 2 (if 2 = 0 then D.cell (List.getD e0 n4.toNat default) 1 else D.sub (List.getD
 e0 n4.toNat default) 1 2)] N4 (fun b_1 N5 => N4 ≤ N5 → Br (!b_1) (∀ N6, N5 ≤ N6 → Q false N6) ((0 ≤ n4 ∧ n4 < (e0.length : Int)) ∧ ∃ s_1, (if 0 = 0 then
 D.cell (List.getD e0 n4.toNat default) 0 else D.sub (List.getD e0 n4.toNat default) 0 0) = D.lit (.string s_1) ∧ (m3 = r0.length ∧ c3 = q0) ∧ ∀ a, ApA a r0 → ∀ N7,
 N5 ≤ N7 → BelA N7 [a] → ACalls prog 136 [.int .i64] [.sv a 0 r0 c3, .str s_1] N7 (fun n N8 => N7 ≤ N8 → Br (decide (n ≥ 0)) (∀ N9, N8 ≤ N9 → Q false N9)
 ((0 ≤ n4 ∧ n4 < (e0.length : Int)) ∧ ∃ s_2, (if 0 = 0 then D.cell (List.getD e0 n4.toNat default) 0 else D.sub (List.getD e0 n4.toNat default) 0 0) = D.lit (.string
 s_2) ∧ (m3 = r0.length ∧ c3 = q0) ∧ apBound r0 [D.lit (.string s_2)] 16 ∧ ∀ (c : Nat), L_spec_AreParams_3 Q N0 a0 e0 c0 (r0 ++ [D.lit (.string s_2)]).length c (IntKind.i64.wrap
 (n4 + 1)) (r0 ++ [D.lit (.string s_2)]) c N8))))))) (∀ N10, N ≤ N10 → Q (decide ((m3 : Int) ≤ 5)) N10)) : L_spec_AreParams_3 Q N0 a0 e0 c0 m3 c3 n4 r0 q0 N :=
  hE (H := H_spec_AreParams) (by kernel_rfl) h
theorem l_spec_DepthOf_3 (Q : QT [.int .i64]) (N0 : Nat) (n3 n4 : Int) (y0 : D) (N : Nat) (h :
∃ a es, ∃ c : Nat, (y0.cell 8) = D.sl a 9 es c ∧ Br (decide (n4 < (es.length : Int))) (∃ a_1 es_1, ∃ c_1 : Nat, (y0.cell 8) = D.sl a_1 9 es_1 c_1 ∧ (0 ≤ n4 ∧ n4
 < (es_1.length : Int)) ∧ ∀ N1, N ≤ N1 → ACalls prog 138 [.int .i64] [.dg 9 (List.getD es_1 n4.toNat default)] N1 (fun n N2 => N1 ≤ N2 → ∀ N3, N2 ≤ N3 →
 ACalls prog 174 [.int .i64] [.int .i64 n3, .int .i64 n] N3 (fun n_1 N4 => N3 ≤ N4 → L_spec_DepthOf_3 Q N0 n_1 (IntKind.i64.wrap (n4 + 1)) y0 N4))) (∀ N5, N
 ≤ N5 → Q (IntKind.i64.wrap (n3 + 1)) N5)) : L_spec_DepthOf_3 Q N0 n3 n4 y0 N :=
  hE (H := H_spec_DepthOf) (by kernel_rfl) h
theorem l_spec_IndexOf_2 (Q : QT [.int .i64]) (N0 : Nat) (a0 : Option Addr) (e0 : List D) (c0 : Nat) (s1 : ByteArray) (n5 : Int) (N : Nat) (h :
Br (decide (n5 < (e0.length : Int))) ((0 ≤ n5 ∧ n5 < (e0.length : Int)) ∧ ∃ s, List.getD e0 n5.toNat default = D.lit (.string s) ∧ Br (ByteArray.toList s == ByteArray.toList
 s1) (∀ N1, N ≤ N1 → Q n5 N1) (L_spec_IndexOf_2 Q N0 a0 e0 c0 s1 (IntKind.i64.wrap (n5 + 1)) N)) (∀ N2, N ≤ N2 → Q (-1) N2)) : L_spec_IndexOf_2 Q N0 a0 e0 c0 s1 n5 N :=
  hE (H := H_spec_IndexOf) (by kernel_rfl) h
theorem l_spec_l15Ctx_3 (Q : QT [.sl 4]) (N0 : Nat) (a0 : Option Addr) (e0 : List D) (c0 m3 c3 : Nat) (n4 : Int) (r0 : List D) (q0 : Nat) (N : Nat) (h :
Br (decide (n4 < (e0.length : Int))) ((0 ≤ n4 ∧ n4 < (e0.length : Int)) ∧ ∃ s, (if 0 = 0 then D.cell (List.getD e0 n4.toNat default) 0 else D.sub (List.getD e0 n4.toNat
 default) 0 0) = D.lit (.string s) ∧ (0 ≤ n4 ∧ n4 < (e0.length : Int)) ∧ (m3 = r0.length ∧ c3 = q0) ∧ apBound r0 [D.ag [D.lit (.string s), D.cell (if 2 = 0 then D.cell
 (List.getD e0 n4.toNat default) 1 else D.sub (List.getD e0 n4.toNat default) 1 2) 0, D.cell (if 2 = 0 then D.cell (List.getD e0 n4.toNat default) 1 else D.sub (List.getD
 e0 n4.toNat default) 1 2) 1, D.lit (.int .i64 0)]] 56 ∧ ∀ (c : Nat), L_spec_l15Ctx_3 Q N0 a0 e0 c0 (r0 ++ [D.ag [D.lit (.string s), D.cell (if 2 = 0 then D.cell
 (List.getD e0 n4.toNat default) 1 else D.sub (List.getD e0 n4.toNat default) 1 2) 0, D.cell (if 2 = 0 then D.cell (List.getD e0 n4.toNat default) 1 else D.sub (List.getD
 e0 n4.toNat default) 1 2) 1, D.lit (.int .i64 0)]]).length c (IntKind.i64.wrap (n4 + 1)) (r0 ++ [D.ag [D.lit (.string s), D.cell (if 2 = 0 then D.cell (List.getD
 e0 n4.toNat default) 1 else D.sub (List.getD e0 n4.toNat default) 1 2) 0, D.cell (if 2 = 0 then D.cell (List.getD e0 n4.toNat default) 1 else D.sub (List.getD e0
 n4.toNat default) 1 2) 1, D.lit (.int .i64 0)]]) c N) ((m3 = r0.length ∧ c3 = q0) ∧ (m3 = r0.length ∧ c3 = q0) ∧ (m3 = r0.length ∧ c3 = q0) ∧ ∀ a N1, N ≤ N1 →
 Fresh N0 N1 a [D.ag r0] → ∀ N2, N1 ≤ N2 → Q a r0 q0 N2)) : L_spec_l15Ctx_3 Q N0 a0 e0 c0 m3 c3 n4 r0 q0 N :=
  hE (H := H_spec_l15Ctx) (by kernel_rfl) h
theorem l_spec_l15Is_2 (Q : QT [.bool]) (N0 : Nat) (n3 : Int) (y0 : D) (N : Nat) (h :
∃ a es, ∃ c : Nat, (y0.cell 8) = D.sl a 9 es c ∧ Br (decide (n3 < (es.length : Int))) (∃ a_1 es_1, ∃ c_1 : Nat, (y0.cell 8) = D.sl a_1 9 es_1 c_1 ∧ (0 ≤ n3 ∧ n3
 < (es_1.length : Int)) ∧ ∀ N1, N ≤ N1 → ACalls prog 87 [.bool] [.dg 9 (List.getD es_1 n3.toNat default)] N1 (fun b N2 => N1 ≤ N2 → Br (!b) (∀ N3, N2 ≤ N3
 → Q false N3) (L_spec_l15Is_2 Q N0 (IntKind.i64.wrap (n3 + 1)) y0 N2))) (∃ n : Int, (y0.cell 0) = D.lit (.int .i64 n) ∧ ∀ N4, N ≤ N4 → ACalls prog 113 [.bool]
 [.int .i64 n, .int .i64 1, .int .i64 5] N4 (fun b_1 N5 => N4 ≤ N5 → Br b_1 (∀ N6, N5 ≤ N6 → Q true N6) (∃ n_1 : Int, (y0.cell 0) = D.lit (.int .i64 n_1)
 ∧ ∀ N7, N5 ≤ N7 → Q (n_1 == 8) N7)))) : L_spec_l15Is_2 Q N0 n3 y0 N :=
  hE (H := H_spec_l15Is) (by kernel_rfl) h
theorem l_spec_l5Left_3 (Q : QT [.int .i64]) (N0 : Nat) (n1 n5 : Int) (y0 : D) (N : Nat) (h :
∃ a es, ∃ c : Nat, (y0.cell 8) = D.sl a 9 es c ∧ Br (decide (n5 < (es.length : Int))) (Br (decide (n1 ≥ 0)) (∃ a_1 es_1, ∃ c_1 : Nat, (y0.cell 8) = D.sl a_1 9 es_1
 c_1 ∧ (0 ≤ n5 ∧ n5 < (es_1.length : Int)) ∧ ∀ N1, N ≤ N1 → ACalls prog 137 [.int .i64] [.dg 9 (List.getD es_1 n5.toNat default), .int .i64 n1] N1 (fun n N2 =>
 N1 ≤ N2 → L_spec_l5Left_3 Q N0 n (IntKind.i64.wrap (n5 + 1)) y0 N2)) (∀ N3, N ≤ N3 → Q n1 N3)) (∀ N4, N ≤ N4 → Q n1 N4)) : L_spec_l5Left_3 Q N0 n1 n5 y0 N :=
  hE (H := H_spec_l5Left) (by kernel_rfl) h
theorem w_slices_ContainsFunc_Term_i0b (N : Nat) (a0 : Option Addr) (e0 : List D) (c0 : Nat) (a1_0 : Addr) (Q : QT [.bool]) (h :
Bel N (D.sl a0 9 e0 c0) → ∀ N1, N ≤ N1 → ACalls prog 132 [.int .i64] [.sv a0 9 e0 c0, .fn 142 [.pd a1_0 0 (.fn 96 [])]] N1 (fun n N2 => N1 ≤ N2 → ∀ N3, N2
 ≤ N3 → Q (decide (n ≥ 0)) N3)) : ACalls prog 80 [.bool] [.sv a0 9 e0 c0, .fn 142 [.pd a1_0 0 (.fn 96 [])]] N Q :=
  eE (H := H_slices_ContainsFunc_Termb) (by kernel_rfl) (by kernel_rfl) h
theorem w_slices_IndexFunc_Term_i0b (N : Nat) (a0 : Option Addr) (e0 : List D) (c0 : Nat) (a1_0 : Addr) (Q : QT [.int .i64]) (h :
Bel N (D.sl a0 9 e0 c0) → L_slices_IndexFunc_Term_2b Q N a0 e0 c0 a1_0 (e0.length : Int) 0 N) : ACalls prog 132 [.int .i64] [.sv a0 9 e0 c0, .fn 142 [.pd a1_0 0 (.fn 96 [])]] N Q :=
 eE (H := H_slices_IndexFunc_Termb) (by kernel_rfl) (by kernel_rfl) h
theorem l_slices_IndexFunc_Term_2b (Q : QT [.int .i64]) (N0 : Nat) (a0 : Option Addr) (e0 : List D) (c0 : Nat) (a1_0 : Addr) (n7 n8 : Int) (N : Nat) (h :
Br (decide (n8 < n7)) ((0 ≤ n8 ∧ n8 < (e0.length : Int)) ∧ ∀ N1, N ≤ N1 → ACalls prog 142 [.bool] [.dg 9 (List.getD e0 n8.toNat default), .pd a1_0 0 (.fn 96 [])]
 N1 (fun b N2 => N1 ≤ N2 → Br b (∀ N3, N2 ≤ N3 → Q n8 N3) (L_slices_IndexFunc_Term_2b Q N0 a0 e0 c0 a1_0 n7 (IntKind.i64.wrap (n8 + 1)) N2))) (∀ N4, N ≤
 N4 → Q (-1) N4)) : L_slices_IndexFunc_Term_2b Q N0 a0 e0 c0 a1_0 n7 n8 N :=
  hE (H := H_slices_IndexFunc_Termb) (by kernel_rfl) h
theorem w_impl_allTerms_1_i0b (N : Nat) (x0 : D) (a1 : Addr) (Q : QT [.bool]) (h :
Bel N x0 → ∀ N1, N ≤ N1 → ACalls prog 95 [.bool] [.dg 9 x0, .fn 96 []] N1 (fun b N2 => N1 ≤ N2 → ∀ N3, N2 ≤ N3 → Q (!b) N3)) : ACalls prog 142 [.bool] [.dg 9 x0, .pd a1 0 (.fn 96 [])] N Q :=
 eE (H := H_impl_allTerms_1b) (by kernel_rfl) (by kernel_rfl) h

end Go.Proofs.YtfkmegifjiiclaaGreat

/- Printed by gen.py: what the functions come to. -/
set_option linter.unusedVariables false
set_option maxRecDepth 100000
namespace Go.Proofs.YtfkmegifjiiclaaGreat
open Go Go.Proofs Go.Proofs.Tryz
def H_impl_BodyType_1 : Hint := ⟨[], [], []⟩
theorem w_impl_BodyType_1 (N : Nat) (x0 : D) (Q : QT [.bool]) (h :
Bel N x0 → ∃ n : Int, (x0.cell 0) = D.lit (.int .i64 n) ∧ ∀ N1, N ≤ N1 → ACalls prog 97 [.bool] [.int .i64 n, .int .i64 1, .int .i64 5] N1 (fun b N2 => N1 ≤
 N2 → Br b (∀ N3, N2 ≤ N3 → Q true N3) (∃ n_1 : Int, (x0.cell 0) = D.lit (.int .i64 n_1) ∧ ∀ N4, N2 ≤ N4 → Q (n_1 == 8) N4))) : ACalls prog 96 [.bool] [PV.dg 9 x0] N Q :=
  eE (H := H_impl_BodyType_1) (by kernel_rfl) (by kernel_rfl) h

end Go.Proofs.YtfkmegifjiiclaaGreat

/- Printed by gen.py: what the functions come to. -/
set_option linter.unusedVariables false
set_option maxRecDepth 100000
namespace Go.Proofs.YtfkmegifjiiclaaGreat
open Go Go.Proofs Go.Proofs.Tryz
def H_slices_Clone_place_places : Hint := ⟨[], [], []⟩
def H_impl_places_and : Hint := ⟨[], [], [(1, [en 0, en 2, en 3, eh 1, eh 4, en 5])]⟩
def H_impl_times : Hint := ⟨[hc 3 [1, 5, 10, 11, 12]], [], [(7, [en 0, en 1, en 2, en 3, en 4, en 5, eh 6, eh 7])]⟩
def H_impl_places_inside : Hint := ⟨[], [], [(3, [en 0, en 1, en 2, en 3, en 4, en 5, en 6, en 7, ec 8 [22], en 9, eh 10, en 11])]⟩
def H_impl_places_isDynamic : Hint := ⟨[hc 4 [0, 3, 16, 17, 18]], [], [(6, [en 0, en 1, en 2, en 4, ec 3 [24], ec 5 [27]])]⟩
def H_spec_l16Env : Hint := ⟨[hc 3 [0, 3, 4] [(3, 116, 2)]], [], [(5, [en 0, en 1, en 2, en 3, en 4, en 5, en 6, en 7, en 8, en 9, en 10, en 11, en 12, eh 13, eh 14])]⟩
def H_spec_l16With : Hint := ⟨[], [], []⟩
def H_spec_l16Late : Hint := ⟨[hc 4 [1, 2, 5], hc 12 [1, 2, 7]], [], [(6, [en 0, en 1, en 2, en 3, en 4, en 5, en 6, en 7]), (9, hs 7 [ec 5 [37]]), (10, [en 0, en 1, en 2, en 3, en 4, en 5, en 6, en 7, en 8, en 9, eh 10, ec 11 [45], en 12, en 13]), (14, hs 7 [ec 6 [64]])]⟩
def L_impl_times_3 (Q : QT [.sl 3]) (N0 : Nat) (a1 : Option Addr) (e1 : List D) (c1 m5 c5 : Nat) (a10 : Option Addr) (e10 : List D) (c10 : Nat) (n11 n12 : Int) (r0 : List D) (q0 : Nat) (N : Nat) : Prop := AT prog 46 [.sl 3] Q N0 .ord (loopAt prog 46 3) ⟨an 1 (.sv a1 0 e1 c1 :: an 3 (.sb 0 3 0 m5 c5 :: an 4 (.sv a10 4 e10 c10 :: .int .i64 n11 :: .int .i64 n12 :: an 27 []))), [.arr 121 3 r0 q0], N, none⟩
def L_impl_places_isDynamic_4 (Q : QT [.bool]) (N0 : Nat) (a0 : Option Addr) (e0 : List D) (c0 : Nat) (a16 : Option Addr) (e16 : List D) (c16 : Nat) (n17 n18 : Int) (y0 : D) (N : Nat) : Prop := AT prog 102 [.bool] Q N0 .ord (loopAt prog 102 4) ⟨.sv a0 3 e0 c0 :: an 2 (.pb 0 0 0 0 :: an 12 (.sv a16 9 e16 c16 :: .int .i64 n17 :: .int .i64 n18 :: an 11 [])), [.vd y0 9], N, none⟩
def L_spec_l16Env_3 (Q : QT [.sl 2]) (N0 : Nat) (a0 : Option Addr) (e0 : List D) (c0 m3 c3 : Nat) (n4 : Int) (r0 : List D) (q0 : Nat) (N : Nat) : Prop := AT prog 41 [.sl 2] Q N0 .ord (loopAt prog 41 3) ⟨.sv a0 4 e0 c0 :: an 2 (.sb 0 2 0 m3 c3 :: .int .i64 n4 :: an 22 []), [.arr 116 2 r0 q0], N, none⟩
def L_spec_l16Late_4 (Q : QT [.bool]) (N0 : Nat) (a1 : Option Addr) (e1 : List D) (c1 : Nat) (n5 : Int) (y0 : D) (N : Nat) : Prop := AT prog 89 [.bool] Q N0 .ord (loopAt prog 89 4) ⟨an 1 (.sv a1 2 e1 c1 :: .pb 0 0 0 0 :: an 2 (.int .i64 n5 :: an 61 [])), [.vd y0 9], N, none⟩
def L_spec_l16Late_12 (Q : QT [.bool]) (N0 : Nat) (a1 : Option Addr) (e1 : List D) (c1 : Nat) (n7 : Int) (y0 : D) (N : Nat) : Prop := AT prog 89 [.bool] Q N0 .ord (loopAt prog 89 12) ⟨an 1 (.sv a1 2 e1 c1 :: .pb 0 0 0 0 :: an 4 (.int .i64 n7 :: an 59 [])), [.vd y0 9], N, none⟩
def L_impl_times_3_v1 (Q : QT [.sl 3]) (N0 : Nat) (a1 : Option Addr) (e1 : List D) (c1 : Nat) (a5 : Option Addr) (e5 : List D) (c5 : Nat) (a10 : Option Addr) (e10 : List D) (c10 : Nat) (n11 n12 : Int) (N : Nat) : Prop := AT prog 46 [.sl 3] Q N0 .ord (loopAt prog 46 3) ⟨an 1 (.sv a1 0 e1 c1 :: an 3 (.sv a5 3 e5 c5 :: an 4 (.sv a10 4 e10 c10 :: .int .i64 n11 :: .int .i64 n12 :: an 27 []))), [], N, none⟩
theorem w_slices_Clone_place_places (N : Nat) (a0 : Option Addr) (e0 : List D) (c0 : Nat) (Q : QT [.row 121 3]) (h :
Bel N (D.sl a0 3 e0 c0) → Br (Option.isNone a0) (∀ N1, N ≤ N1 → Q [] 0 N1) ((0 = 0 ∧ 0 = 0) ∧ apBound [] e0 32 ∧ ∀ (c : Nat), (([] ++ e0).length = ([] ++ e0).length
 ∧ c = c) ∧ ∀ N2, N ≤ N2 → Q ([] ++ e0) c N2)) : ACalls prog 150 [.row 121 3] [PV.sv a0 3 e0 c0] N Q :=
  eE (H := H_slices_Clone_place_places) (by kernel_rfl) (by kernel_rfl) h
theorem w_impl_places_and (N : Nat) (a0 : Option Addr) (e0 : List D) (c0 : Nat) (x1 : D) (Q : QT [.sl 3]) (h :
Bel N (D.sl a0 3 e0 c0) → Bel N x1 → ∀ N1, N ≤ N1 → ACalls prog 150 [.row (OfNat.ofNat 121) 3] [.sv a0 3 e0 c0] N1 (fun es c N2 => N1 ≤ N2 → Bel N2 (D.ag
 es) → (es.length = es.length ∧ c = c) ∧ apBound es [x1] 32 ∧ ∀ (c_1 : Nat), ((es ++ [x1]).length = (es ++ [x1]).length ∧ c_1 = c_1) ∧ ((es ++ [x1]).length = (es
 ++ [x1]).length ∧ c_1 = c_1) ∧ ∀ a N3, N2 ≤ N3 → Fresh N N3 a [D.ag (es ++ [x1])] → ∀ N4, N3 ≤ N4 → Q a (es ++ [x1]) c_1 N4)) : ACalls prog 101 [.sl 3] [PV.sv a0 3 e0 c0, PV.dg 3 x1] N Q :=
  eE (H := H_impl_places_and) (by kernel_rfl) (by kernel_rfl) h
theorem w_impl_times (N : Nat) (a0 : Option Addr) (e0 : List D) (c0 : Nat) (a1 : Option Addr) (e1 : List D) (c1 : Nat) (Q : QT [.sl 3]) (h :
Bel N (D.sl a0 4 e0 c0) → Bel N (D.sl a1 0 e1 c1) → L_impl_times_3 Q N a1 e1 c1 0 0 a0 e0 c0 (e0.length : Int) 0 [] 0 N) : ACalls prog 46 [.sl 3] [PV.sv a0 4 e0 c0, PV.sv a1 0 e1 c1] N Q :=
 eE (H := H_impl_times) (by kernel_rfl) (by kernel_rfl) h
theorem w_impl_places_inside (N : Nat) (a0 : Option Addr) (e0 : List D) (c0 : Nat) (x1 : D) (n2 : Int) (Q : QT [.sl 3]) (h :
Bel N (D.sl a0 3 e0 c0) → Bel N x1 → ∃ n : Int, (x1.cell 0) = D.lit (.int .i64 n) ∧ Br (bne n 8) (∀ N1, N ≤ N1 → Q a0 e0 c0 N1) (Br (n2 == 0) (∀ N2, N ≤ N2
 → Q a0 e0 c0 N2) (∃ s, (x1.cell 1) = D.lit (.string s) ∧ ∃ a es, ∃ c : Nat, (x1.cell 8) = D.sl a 9 es c ∧ ((0 : Int) ≤ (0 : Int) ∧ 0 < (es.length : Int)) ∧ ∀ N3,
 N ≤ N3 → ACalls prog 102 [.bool] [.sv a0 3 e0 c0, .dg 9 (List.getD es 0 default)] N3 (fun b N4 => N3 ≤ N4 → ∀ N5, N4 ≤ N5 → ACalls prog 101 [.sl 3] [.sv
 a0 3 e0 c0, .dg 3 (D.ag [D.lit (.string s), D.lit (.int .i64 0), D.lit (.bool b)])] N5 (fun a_1 es_1 c_1 N6 => N5 ≤ N6 → Bel N6 (D.sl a_1 3 es_1 c_1) → ∀ N7,
 N6 ≤ N7 → Q a_1 es_1 c_1 N7))))) : ACalls prog 106 [.sl 3] [PV.sv a0 3 e0 c0, PV.dg 9 x1, PV.int .i64 n2] N Q :=
  eE (H := H_impl_places_inside) (by kernel_rfl) (by kernel_rfl) h
theorem w_impl_places_isDynamic (N : Nat) (a0 : Option Addr) (e0 : List D) (c0 : Nat) (x1 : D) (Q : QT [.bool]) (h :
Bel N (D.sl a0 3 e0 c0) → Bel N x1 → ∃ n : Int, (x1.cell 0) = D.lit (.int .i64 n) ∧ Br (n == 1) (∃ s, (x1.cell 1) = D.lit (.string s) ∧ ∀ N1, N ≤ N1 → ACalls prog
 151 [.ag 3] [.sv a0 3 e0 c0, .str s] N1 (fun x N2 => N1 ≤ N2 → Bel N2 x → ∃ b : Bool, (x.cell 2) = D.lit (.bool b) ∧ ∀ N3, N2 ≤ N3 → Q b N3)) (∃ a es, ∃
 c : Nat, (x1.cell 8) = D.sl a 9 es c ∧ L_impl_places_isDynamic_4 Q N a0 e0 c0 a es c (es.length : Int) 0 x1 N)) : ACalls prog 102 [.bool] [PV.sv a0 3 e0 c0, PV.dg 9 x1] N Q :=
  eE (H := H_impl_places_isDynamic) (by kernel_rfl) (by kernel_rfl) h
theorem w_spec_l16Env (N : Nat) (a0 : Option Addr) (e0 : List D) (c0 : Nat) (Q : QT [.sl 2]) (h :
Bel N (D.sl a0 4 e0 c0) → L_spec_l16Env_3 Q N a0 e0 c0 0 0 0 [] 0 N) : ACalls prog 41 [.sl 2] [PV.sv a0 4 e0 c0] N Q :=
 eE (H := H_spec_l16Env) (by kernel_rfl) (by kernel_rfl) h
theorem w_spec_l16With (N : Nat) (a0 : Option Addr) (e0 : List D) (c0 : Nat) (s1 : ByteArray) (b2 : Bool) (Q : QT [.sl 2]) (h :
Bel N (D.sl a0 2 e0 c0) → (0 = 0 ∧ 0 = 0) ∧ apBound [] e0 24 ∧ ∀ (c : Nat), (([] ++ e0).length = ([] ++ e0).length ∧ c = c) ∧ apBound ([] ++ e0) [D.ag [D.lit (.string
 s1), D.lit (.bool b2)]] 24 ∧ ∀ (c_1 : Nat), ((([] ++ e0) ++ [D.ag [D.lit (.string s1), D.lit (.bool b2)]]).length = (([] ++ e0) ++ [D.ag [D.lit (.string s1), D.lit
 (.bool b2)]]).length ∧ c_1 = c_1) ∧ ((([] ++ e0) ++ [D.ag [D.lit (.string s1), D.lit (.bool b2)]]).length = (([] ++ e0) ++ [D.ag [D.lit (.string s1), D.lit (.bool
 b2)]]).length ∧ c_1 = c_1) ∧ ∀ a N1, N ≤ N1 → Fresh N N1 a [D.ag (([] ++ e0) ++ [D.ag [D.lit (.string s1), D.lit (.bool b2)]])] → ∀ N2, N1 ≤ N2 → Q a (([]
 ++ e0) ++ [D.ag [D.lit (.string s1), D.lit (.bool b2)]]) c_1 N2) : ACalls prog 92 [.sl 2] [PV.sv a0 2 e0 c0, PV.str s1, PV.bool b2] N Q :=
  eE (H := H_spec_l16With) (by kernel_rfl) (by kernel_rfl) h
theorem w_spec_l16Late (N : Nat) (x0 : D) (a1 : Option Addr) (e1 : List D) (c1 : Nat) (Q : QT [.bool]) (h :
Bel N x0 → Bel N (D.sl a1 2 e1 c1) → ∃ n : Int, (x0.cell 0) = D.lit (.int .i64 n) ∧ Br (n == 1) (L_spec_l16Late_4 Q N a1 e1 c1 (IntKind.i64.wrap ((e1.length : Int)
 - 1)) x0 N) (Br (n == 8) (∃ a es, ∃ c : Nat, (x0.cell 8) = D.sl a 9 es c ∧ ((0 : Int) ≤ (0 : Int) ∧ 0 < (es.length : Int)) ∧ ∀ N1, N ≤ N1 → ACalls prog 89 [.bool]
 [.dg 9 (List.getD es 0 default), .sv a1 2 e1 c1] N1 (fun b N2 => N1 ≤ N2 → Br b (∀ N3, N2 ≤ N3 → Q true N3) (∃ a_1 es_1, ∃ c_1 : Nat, (x0.cell 8) = D.sl
 a_1 9 es_1 c_1 ∧ ((0 : Int) ≤ (1 : Int) ∧ 1 < (es_1.length : Int)) ∧ ∃ s, (x0.cell 1) = D.lit (.string s) ∧ ∀ N4, N2 ≤ N4 → ACalls prog 92 [.sl 2] [.sv a1 2 e1
 c1, .str s, .bool b] N4 (fun a_2 es_2 c_2 N5 => N4 ≤ N5 → Bel N5 (D.sl a_2 2 es_2 c_2) → ∀ N6, N5 ≤ N6 → ACalls prog 89 [.bool] [.dg 9 (List.getD es_1 1
 default), .sv a_2 2 es_2 c_2] N6 (fun b_1 N7 => N6 ≤ N7 → ∀ N8, N7 ≤ N8 → Q b_1 N8))))) (L_spec_l16Late_12 Q N a1 e1 c1 0 x0 N))) : ACalls prog 89 [.bool] [PV.dg 9 x0, PV.sv a1 2 e1 c1] N Q :=
  eE (H := H_spec_l16Late) (by kernel_rfl) (by kernel_rfl) h
theorem l_impl_times_3 (Q : QT [.sl 3]) (N0 : Nat) (a1 : Option Addr) (e1 : List D) (c1 m5 c5 : Nat) (a10 : Option Addr) (e10 : List D) (c10 : Nat) (n11 n12 : Int) (r0 : List D) (q0 : Nat) (N : Nat) (h :
Br (decide (n12 < n11)) ((0 ≤ n12 ∧ n12 < (e10.length : Int)) ∧ ∃ s, D.cell (List.getD e10 n12.toNat default) 0 = D.lit (.string s) ∧ ∃ b : Bool, D.cell (List.getD
 e10 n12.toNat default) 3 = D.lit (.bool b) ∧ ∃ b_1 : Bool, D.cell (List.getD e10 n12.toNat default) 3 = D.lit (.bool b_1) ∧ Br (!b_1) (Br (decide ((e1.length : Int)
 > 0)) (((0 : Int) ≤ (0 : Int) ∧ 0 < (e1.length : Int)) ∧ ∃ n : Int, List.getD e1 0 default = D.lit (.int .i64 n) ∧ ((0 : Int) ≤ (1 : Int) ∧ 1 ≤ (e1.length : Int)
 ∧ (e1.length : Int) ≤ (e1.length : Int)) ∧ (m5 = r0.length ∧ c5 = q0) ∧ ∀ a, ApA a r0 → ∀ N1, N ≤ N1 → BelA N1 [a] → ACalls prog 101 [.sl 3] [.sv a 3 r0 c5, .dg
 3 (D.ag [D.lit (.string s), D.lit (.int .i64 n), D.lit (.bool b)])] N1 (fun a_1 es c N2 => N1 ≤ N2 → Off [a] (D.sl a_1 3 es c) ∧ (Bel N2 (D.sl a_1 3 es c) →
 L_impl_times_3_v1 Q N0 (if (c1 : Int) = 1 then a1 else Option.map (fun x => Addr.add x 1) a1) (List.drop 1 (List.take ((e1.length : Int)).toNat e1)) (c1 - 1 : Nat)
 a_1 es c a10 e10 c10 n11 (IntKind.i64.wrap (n12 + 1)) N2))) ((m5 = r0.length ∧ c5 = q0) ∧ ∀ a_2, ApA a_2 r0 → ∀ N3, N ≤ N3 → BelA N3 [a_2] → ACalls prog 101
 [.sl 3] [.sv a_2 3 r0 c5, .dg 3 (D.ag [D.lit (.string s), D.lit (.int .i64 0), D.lit (.bool b)])] N3 (fun a_3 es_1 c_1 N4 => N3 ≤ N4 → Off [a_2] (D.sl a_3 3
 es_1 c_1) ∧ (Bel N4 (D.sl a_3 3 es_1 c_1) → L_impl_times_3_v1 Q N0 a1 e1 c1 a_3 es_1 c_1 a10 e10 c10 n11 (IntKind.i64.wrap (n12 + 1)) N4)))) ((m5 = r0.length ∧
 c5 = q0) ∧ ∀ a_4, ApA a_4 r0 → ∀ N5, N ≤ N5 → BelA N5 [a_4] → ACalls prog 101 [.sl 3] [.sv a_4 3 r0 c5, .dg 3 (D.ag [D.lit (.string s), D.lit (.int .i64 0), D.lit
 (.bool b)])] N5 (fun a_5 es_2 c_2 N6 => N5 ≤ N6 → Off [a_4] (D.sl a_5 3 es_2 c_2) ∧ (Bel N6 (D.sl a_5 3 es_2 c_2) → L_impl_times_3_v1 Q N0 a1 e1 c1 a_5 es_2
 c_2 a10 e10 c10 n11 (IntKind.i64.wrap (n12 + 1)) N6)))) ((m5 = r0.length ∧ c5 = q0) ∧ (m5 = r0.length ∧ c5 = q0) ∧ (m5 = r0.length ∧ c5 = q0) ∧ ∀ a_6 N7, N ≤ N7
 → Fresh N0 N7 a_6 [D.ag r0] → ∀ N8, N7 ≤ N8 → Q a_6 r0 q0 N8)) : L_impl_times_3 Q N0 a1 e1 c1 m5 c5 a10 e10 c10 n11 n12 r0 q0 N :=
  hE (H := H_impl_times) (by kernel_rfl) h
theorem l_impl_places_isDynamic_4 (Q : QT [.bool]) (N0 : Nat) (a0 : Option Addr) (e0 : List D) (c0 : Nat) (a16 : Option Addr) (e16 : List D) (c16 : Nat) (n17 n18 : Int) (y0 : D) (N : Nat) (h :
Br (decide (n18 < n17)) ((0 ≤ n18 ∧ n18 < (e16.length : Int)) ∧ ∀ N1, N ≤ N1 → ACalls prog 106 [.sl 3] [.sv a0 3 e0 c0, .dg 9 y0, .int .i64 n18] N1 (fun a es
 c N2 => N1 ≤ N2 → Bel N2 (D.sl a 3 es c) → ∀ N3, N2 ≤ N3 → ACalls prog 102 [.bool] [.sv a 3 es c, .dg 9 (List.getD e16 n18.toNat default)] N3 (fun b N4
 => N3 ≤ N4 → Br b (∀ N5, N4 ≤ N5 → Q true N5) (L_impl_places_isDynamic_4 Q N0 a0 e0 c0 a16 e16 c16 n17 (IntKind.i64.wrap (n18 + 1)) y0 N4)))) (∀ N6, N ≤
 N6 → Q false N6)) : L_impl_places_isDynamic_4 Q N0 a0 e0 c0 a16 e16 c16 n17 n18 y0 N :=
  hE (H := H_impl_places_isDynamic) (by kernel_rfl) h
theorem l_spec_l16Env_3 (Q : QT [.sl 2]) (N0 : Nat) (a0 : Option Addr) (e0 : List D) (c0 m3 c3 : Nat) (n4 : Int) (r0 : List D) (q0 : Nat) (N : Nat) (h :
Br (decide (n4 < (e0.length : Int))) ((0 ≤ n4 ∧ n4 < (e0.length : Int)) ∧ ∃ s, (if 0 = 0 then D.cell (List.getD e0 n4.toNat default) 0 else D.sub (List.getD e0 n4.toNat
 default) 0 0) = D.lit (.string s) ∧ (0 ≤ n4 ∧ n4 < (e0.length : Int)) ∧ ∃ b : Bool, (if 0 = 0 then D.cell (List.getD e0 n4.toNat default) 3 else D.sub (List.getD
 e0 n4.toNat default) 3 0) = D.lit (.bool b) ∧ (m3 = r0.length ∧ c3 = q0) ∧ apBound r0 [D.ag [D.lit (.string s), D.lit (.bool b)]] 24 ∧ ∀ (c : Nat), L_spec_l16Env_3
 Q N0 a0 e0 c0 (r0 ++ [D.ag [D.lit (.string s), D.lit (.bool b)]]).length c (IntKind.i64.wrap (n4 + 1)) (r0 ++ [D.ag [D.lit (.string s), D.lit (.bool b)]]) c N) ((m3
 = r0.length ∧ c3 = q0) ∧ (m3 = r0.length ∧ c3 = q0) ∧ (m3 = r0.length ∧ c3 = q0) ∧ ∀ a N1, N ≤ N1 → Fresh N0 N1 a [D.ag r0] → ∀ N2, N1 ≤ N2 → Q a r0 q0 N2) 
 ) : L_spec_l16Env_3 Q N0 a0 e0 c0 m3 c3 n4 r0 q0 N :=
  hE (H := H_spec_l16Env) (by kernel_rfl) h
theorem l_spec_l16Late_4 (Q : QT [.bool]) (N0 : Nat) (a1 : Option Addr) (e1 : List D) (c1 : Nat) (n5 : Int) (y0 : D) (N : Nat) (h :
Br (decide (n5 ≥ 0)) ((0 ≤ n5 ∧ n5 < (e1.length : Int)) ∧ ∃ s, (if 0 = 0 then D.cell (List.getD e1 n5.toNat default) 0 else D.sub (List.getD e1 n5.toNat default)
 0 0) = D.lit (.string s) ∧ ∃ s_1, (y0.cell 1) = D.lit (.string s_1) ∧ Br (ByteArray.toList s == ByteArray.toList s_1) ((0 ≤ n5 ∧ n5 < (e1.length : Int)) ∧ ∃ b :
 Bool, (if 0 = 0 then D.cell (List.getD e1 n5.toNat default) 1 else D.sub (List.getD e1 n5.toNat default) 1 0) = D.lit (.bool b) ∧ ∀ N1, N ≤ N1 → Q b N1) (L_spec_l16Late_4
 Q N0 a1 e1 c1 (IntKind.i64.wrap (n5 - 1)) y0 N)) (L_spec_l16Late_12 Q N0 a1 e1 c1 0 y0 N)) : L_spec_l16Late_4 Q N0 a1 e1 c1 n5 y0 N :=
  hE (H := H_spec_l16Late) (by kernel_rfl) h
theorem l_spec_l16Late_12 (Q : QT [.bool]) (N0 : Nat) (a1 : Option Addr) (e1 : List D) (c1 : Nat) (n7 : Int) (y0 : D) (N : Nat) (h :
∃ a es, ∃ c : Nat, (y0.cell 8) = D.sl a 9 es c ∧ Br (decide (n7 < (es.length : Int))) (∃ a_1 es_1, ∃ c_1 : Nat, (y0.cell 8) = D.sl a_1 9 es_1 c_1 ∧ (0 ≤ n7 ∧ n7
 < (es_1.length : Int)) ∧ ∀ N1, N ≤ N1 → ACalls prog 89 [.bool] [.dg 9 (List.getD es_1 n7.toNat default), .sv a1 2 e1 c1] N1 (fun b N2 => N1 ≤ N2 → Br b (∀
 N3, N2 ≤ N3 → Q true N3) (L_spec_l16Late_12 Q N0 a1 e1 c1 (IntKind.i64.wrap (n7 + 1)) y0 N2))) (∀ N4, N ≤ N4 → Q false N4)) : L_spec_l16Late_12 Q N0 a1 e1 c1 n7 y0 N :=
  hE (H := H_spec_l16Late) (by kernel_rfl) h
theorem l_impl_times_3_v1 (Q : QT [.sl 3]) (N0 : Nat) (a1 : Option Addr) (e1 : List D) (c1 : Nat) (a5 : Option Addr) (e5 : List D) (c5 : Nat) (a10 : Option Addr) (e10 : List D) (c10 : Nat) (n11 n12 : Int) (N : Nat) (h :
Br (decide (n12 < n11)) ((0 ≤ n12 ∧ n12 < (e10.length : Int)) ∧ ∃ s, D.cell (List.getD e10 n12.toNat default) 0 = D.lit (.string s) ∧ ∃ b : Bool, D.cell (List.getD
 e10 n12.toNat default) 3 = D.lit (.bool b) ∧ ∃ b_1 : Bool, D.cell (List.getD e10 n12.toNat default) 3 = D.lit (.bool b_1) ∧ Br (!b_1) (Br (decide ((e1.length : Int)
 > 0)) (((0 : Int) ≤ (0 : Int) ∧ 0 < (e1.length : Int)) ∧ ∃ n : Int, List.getD e1 0 default = D.lit (.int .i64 n) ∧ ((0 : Int) ≤ (1 : Int) ∧ 1 ≤ (e1.length : Int)
 ∧ (e1.length : Int) ≤ (e1.length : Int)) ∧ ∀ N1, N ≤ N1 → ACalls prog 101 [.sl 3] [.sv a5 3 e5 c5, .dg 3 (D.ag [D.lit (.string s), D.lit (.int .i64 n), D.lit (.bool
 b)])] N1 (fun a es c N2 => N1 ≤ N2 → Bel N2 (D.sl a 3 es c) → L_impl_times_3_v1 Q N0 (if (c1 : Int) = 1 then a1 else Option.map (fun x => Addr.add x 1) a1)
 (List.drop 1 (List.take ((e1.length : Int)).toNat e1)) (c1 - 1 : Nat) a es c a10 e10 c10 n11 (IntKind.i64.wrap (n12 + 1)) N2)) (∀ N3, N ≤ N3 → ACalls prog 101
 [.sl 3] [.sv a5 3 e5 c5, .dg 3 (D.ag [D.lit (.string s), D.lit (.int .i64 0), D.lit (.bool b)])] N3 (fun a_1 es_1 c_1 N4 => N3 ≤ N4 → Bel N4 (D.sl a_1 3 es_1
 c_1) → L_impl_times_3_v1 Q N0 a1 e1 c1 a_1 es_1 c_1 a10 e10 c10 n11 (IntKind.i64.wrap (n12 + 1)) N4))) (∀ N5, N ≤ N5 → ACalls prog 101 [.sl 3] [.sv a5 3 e5 c5,
 .dg 3 (D.ag [D.lit (.string s), D.lit (.int .i64 0), D.lit (.bool b)])] N5 (fun a_2 es_2 c_2 N6 => N5 ≤ N6 → Bel N6 (D.sl a_2 3 es_2 c_2) → L_impl_times_3_v1
 Q N0 a1 e1 c1 a_2 es_2 c_2 a10 e10 c10 n11 (IntKind.i64.wrap (n12 + 1)) N6))) (∀ N7, N ≤ N7 → Q a5 e5 c5 N7)) : L_impl_times_3_v1 Q N0 a1 e1 c1 a5 e5 c5 a10 e10 c10 n11 n12 N :=
  hE (H := H_impl_times) (by kernel_rfl) h

end Go.Proofs.YtfkmegifjiiclaaGreat

/- Printed by gen.py: what the functions come to. -/
set_option linter.unusedVariables false
set_option maxRecDepth 100000
namespace Go.Proofs.YtfkmegifjiiclaaGreat
open Go Go.Proofs Go.Proofs.Tryz
def H_spec_l5Copy : Hint := ⟨[hc 3 [1, 2, 3, 4] [] [(3, 8, 36, 9)]], [], [(1, [en 0, en 1, en 2, en 3, en 4, en 5, en 6, en 7, en 8, en 9, en 11, en 12, en 15, { i := 10, hard := true, cl := [14], fs := [3, 14] }, { i := 13, hard := true, cl := [17], fs := [3, 17] }, en 14, eh 16]), (5, [en 0, en 1, en 2, en 3, en 4, en 5, en 6, { i := 7, hard := true, cl := [33], fs := [3, 33] }, { i := 8, hard := true, cl := [34], fs := [3, 34] }, eh 9, en 10, eh 11])]⟩
def H_spec_l5Node : Hint := ⟨[hc 3 [1, 4, 5, 6] [] [(5, 8, 36, 9)]], [], [(5, [en 0, en 1, en 2, en 3, en 4, en 5, { i := 6, hard := true, cl := [20], fs := [5, 20] }, { i := 7, hard := true, cl := [21], fs := [5, 21] }, eh 8, en 9, eh 10])]⟩
def H_spec_l5Let : Hint := ⟨[], [], []⟩
def H_spec_l17Quote : Hint := ⟨[], [], []⟩
def H_spec_l17Splice : Hint := ⟨[], [], []⟩
def H_spec_l17All : Hint := ⟨[hc 3 [1, 2, 4, 5, 6]], [], [(1, hs 4 [ec 1 [8]]), (8, [en 0, en 1, en 2, en 3, en 4, en 5, en 6, en 7, en 8, ec 9 [36], ec 10 [38], en 11, eh 12]), (9, hs 3 [ec 1 [41]])]⟩
def H_spec_l17Code : Hint := ⟨[], [], [(1, hs 5 [ec 2 [6]]), (4, hs 3 [ec 1 [17]]), (5, hs 13 [ec 9 [27]]), (6, [en 0, en 1, en 2, en 3, en 4, en 5, en 6, en 7, en 8, en 10, en 11, en 12, en 13, en 14, ec 9 [39], ec 15 [45], en 16, eh 17, eh 18]), (7, hs 13 [ec 9 [58]]), (8, [en 0, en 1, en 2, en 3, en 4, en 5, en 6, en 7, en 8, en 9, en 10, en 11, en 12, eh 13, ec 14 [72], ec 15 [68, 77], eh 16]), (9, hs 4 [ec 2 [79]])]⟩
def H_spec_CodeFor : Hint := ⟨[], [], [(1, hs 9 [ec 2 [9]]), (4, [en 0, en 1, eh 2, ec 3 [16], eh 4])]⟩
def H_impl_Term_node : Hint := ⟨[], [], [(1, [en 0, en 1, en 2, en 3, en 4, en 5, en 6, en 7, en 8, en 9, en 11, en 12, en 14, ec 10 [14], ec 13 [17], en 15, eh 16])]⟩
def H_impl_Term_mapped : Hint := ⟨[hc 3 [1, 2, 4, 5, 10, 11, 12] [(5, 36, 9)]], [], [(5, hs 7 [ec 3 [18]]), (7, hs 4 [ec 2 [23, 24]])]⟩
def H_impl_Term_own : Hint := ⟨[], [], [(1, hs 3 [ec 1 [3]])]⟩
def H_impl_tmForm : Hint := ⟨[], [], []⟩
def H_impl_quoted : Hint := ⟨[], [], [(1, hs 4 [ec 2 [4]])]⟩
def H_impl_spliced : Hint := ⟨[], [], [(1, hs 4 [ec 2 [4]])]⟩
def H_impl_places_code_1 : Hint := ⟨[], [], [(1, [en 0, en 1, en 2, en 4, en 5, en 6, en 7, en 8, ec 3 [6], ec 9 [13], eh 10])]⟩
def H_impl_places_code : Hint := ⟨[hc 9 [3, 4, 5, 6, 7] [(6, 36, 9)], hc 15 [3, 4, 5, 8, 62, 63] [(8, 36, 9)]], [], [(1, hs 4 [ec 2 [10, 11]]), (2, hs 5 [ec 1 [14], ec 3 [16]]), (4, hs 4 [ec 1 [21], ec 2 [22]]), (6, [en 0, en 1, en 2, en 3, en 4, en 5, en 6, en 7, en 8, ec 9 [29, 33], en 10, en 11]), (7, hs 7 [ec 4 [40]]), (12, hs 4 [ec 2 [56, 57]]), (17, hs 8 [ec 4 [69]]), (19, hs 5 [ec 2 [74, 75], ec 3 [76]])]⟩
def H_impl_CodeFor : Hint := ⟨[], [], [(1, hs 9 [ec 2 [9]]), (4, [en 0, en 2, eh 1, ec 3 [18], eh 4])]⟩
def H_laws_heldTermS : Hint := ⟨[hc 2 [0, 1, 5]], [], [(7, [en 0, en 1, en 2, en 3, en 4, en 5, eh 6, en 7]), (10, [en 0, en 1, en 2, en 3, en 4, en 5, eh 6, en 7])]⟩
def H_laws_heldTerm : Hint := ⟨[], [], [(1, hs 5 [ec 3 [6]]), (4, hs 5 [ec 3 [12]])]⟩
def H_laws_FnExactCodeFor : Hint := ⟨[], [], [(5, hs 4 [ec 2 [19]]), (8, [en 0, en 2, en 5, eh 1, ec 3 [26], ec 4 [27], eh 6]), (10, hs 4 [ec 1 [31]]), (11, hs 5 [ec 2 [34]]), (12, hs 4 [ec 2 [36, 37]]), (16, [en 0, en 1, ec 2 [46], ec 3 [45, 47], en 4]), (19, hs 4 [em 2 none [0, 3, 6, 8, 9, 10]]), (20, hs 4 [em 2 (some 8) [0, 3, 6, 9, 10]]), (21, hs 8 [ec 5 [59, 60]]), (24, hs 4 [em 2 (some 9) [0, 3, 6, 9, 11]]), (26, hs 4 [ec 2 [67]]), (31, [en 0, en 2, en 5, eh 1, ec 3 [77], ec 4 [78], eh 6]), (32, hs 4 [ec 2 [80, 81]]), (35, hs 4 [ec 2 [84]])]⟩
def L_spec_l5Copy_3 (Q : QT [.pk, .int .i64, .str, .str, .int .i64, .dc, .dc, .dc, .dc, .row 36 9]) (N0 : Nat) (n4 : Int) (y0 : D) (n1_0 : Int) (s1_1 s1_2 : ByteArray) (n1_3 n1_4 : Int) (a1_5 : Option Addr) (e1_5 : List D) (c1_5 : Nat) (n1_6 : Int) (a1_7 : Option Addr) (e1_7 : List D) (c1_7 : Nat) (a1_8 : Option Addr) (e1_8 : List D) (c1_8 : Nat) (n2_0 : Int) (s2_1 s2_2 : ByteArray) (n2_3 : Int) (x2_4 x2_5 x2_6 x2_7 : D) (m2_8 c2_8 : Nat) (r3 : List D) (q3 : Nat) (N : Nat) : Prop := AT prog 75 [.pk, .int .i64, .str, .str, .int .i64, .dc, .dc, .dc, .dc, .row 36 9] Q N0 .ord (loopAt prog 75 3) ⟨an 1 (.pb 0 0 0 0 :: .pb 1 0 0 0 :: .pb 2 0 0 0 :: .int .i64 n4 :: an 34 []), [.vd y0 9, .var [.int .i64 n1_0, .str s1_1, .str s1_2, .int .i64 n1_3, .int .i64 n1_4, .sv a1_5 2 e1_5 c1_5, .int .i64 n1_6, .sv a1_7 2 e1_7 c1_7, .sv a1_8 9 e1_8 c1_8], .var [.int .i64 n2_0, .str s2_1, .str s2_2, .int .i64 n2_3, .dc x2_4, .dc x2_5, .dc x2_6, .dc x2_7, .sb 3 9 0 m2_8 c2_8], .arr 36 9 r3 q3], N, none⟩
def L_spec_l5Node_3 (Q : QT [.ag 9]) (N0 : Nat) (a1 : Option Addr) (e1 : List D) (c1 : Nat) (n6 n0_0 : Int) (s0_1 s0_2 : ByteArray) (n0_3 n0_4 : Int) (a0_5 : Option Addr) (e0_5 : List D) (c0_5 : Nat) (n0_6 : Int) (a0_7 : Option Addr) (e0_7 : List D) (c0_7 : Nat) (a0_8 : Option Addr) (e0_8 : List D) (c0_8 : Nat) (n1_0 : Int) (s1_1 s1_2 : ByteArray) (n1_3 n1_4 : Int) (a1_5 : Option Addr) (e1_5 : List D) (c1_5 : Nat) (n1_6 : Int) (a1_7 : Option Addr) (e1_7 : List D) (c1_7 m1_8 c1_8 : Nat) (r2 : List D) (q2 : Nat) (N : Nat) : Prop := AT prog 90 [.ag 9] Q N0 .ord (loopAt prog 90 3) ⟨an 1 (.sv a1 9 e1 c1 :: an 2 (.pb 0 0 0 0 :: .pb 1 0 0 0 :: .int .i64 n6 :: an 19 [])), [.var [.int .i64 n0_0, .str s0_1, .str s0_2, .int .i64 n0_3, .int .i64 n0_4, .sv a0_5 2 e0_5 c0_5, .int .i64 n0_6, .sv a0_7 2 e0_7 c0_7, .sv a0_8 9 e0_8 c0_8], .var [.int .i64 n1_0, .str s1_1, .str s1_2, .int .i64 n1_3, .int .i64 n1_4, .sv a1_5 2 e1_5 c1_5, .int .i64 n1_6, .sv a1_7 2 e1_7 c1_7, .sb 2 9 0 m1_8 c1_8], .arr 36 9 r2 q2], N, none⟩
def L_spec_l17All_3 (Q : QT [.ag 9]) (N0 : Nat) (a1 : Option Addr) (e1 : List D) (c1 : Nat) (n6 : Int) (y0 : D) (n1_0 : Int) (s1_1 s1_2 : ByteArray) (n1_3 n1_4 : Int) (a1_5 : Option Addr) (e1_5 : List D) (c1_5 : Nat) (n1_6 : Int) (a1_7 : Option Addr) (e1_7 : List D) (c1_7 : Nat) (a1_8 : Option Addr) (e1_8 : List D) (c1_8 : Nat) (n2_0 : Int) (s2_1 s2_2 : ByteArray) (n2_3 : Int) (x2_4 x2_5 x2_6 x2_7 : D) (m2_8 c2_8 : Nat) (r3 : List D) (q3 : Nat) (N : Nat) : Prop := AT prog 93 [.ag 9] Q N0 .ord (loopAt prog 93 3) ⟨an 1 (.sv a1 2 e1 c1 :: .pb 0 0 0 0 :: an 1 (.pb 1 0 0 0 :: .pb 2 0 0 0 :: .int .i64 n6 :: an 36 [])), [.vd y0 9, .var [.int .i64 n1_0, .str s1_1, .str s1_2, .int .i64 n1_3, .int .i64 n1_4, .sv a1_5 2 e1_5 c1_5, .int .i64 n1_6, .sv a1_7 2 e1_7 c1_7, .sv a1_8 9 e1_8 c1_8], .var [.int .i64 n2_0, .str s2_1, .str s2_2, .int .i64 n2_3, .dc x2_4, .dc x2_5, .dc x2_6, .dc x2_7, .sb 3 9 0 m2_8 c2_8], .arr 36 9 r3 q3], N, none⟩
def L_impl_places_code_9 (Q : QT [.ag 9]) (N0 : Nat) (m6 c6 : Nat) (n7 : Int) (y0 : D) (n1_0 : Int) (s1_1 s1_2 : ByteArray) (n1_3 n1_4 : Int) (a1_5 : Option Addr) (e1_5 : List D) (c1_5 : Nat) (n1_6 : Int) (a1_7 : Option Addr) (e1_7 : List D) (c1_7 : Nat) (a1_8 : Option Addr) (e1_8 : List D) (c1_8 : Nat) (a2_0 : Option Addr) (e2_0 : List D) (c2_0 : Nat) (r3 : List D) (q3 : Nat) (N : Nat) : Prop := AT prog 47 [.ag 9] Q N0 .ord (loopAt prog 47 9) ⟨an 3 (.pb 0 0 0 0 :: .pb 1 0 0 0 :: .fn 105 [.pb 2 0 0 0, .pb 0 0 0 0] :: .sb 3 9 0 m6 c6 :: .int .i64 n7 :: an 70 []), [.vd y0 9, .var [.int .i64 n1_0, .str s1_1, .str s1_2, .int .i64 n1_3, .int .i64 n1_4, .sv a1_5 2 e1_5 c1_5, .int .i64 n1_6, .sv a1_7 2 e1_7 c1_7, .sv a1_8 9 e1_8 c1_8], .var [.sv a2_0 3 e2_0 c2_0], .arr 36 9 r3 q3], N, none⟩
def L_impl_places_code_15 (Q : QT [.ag 9]) (N0 : Nat) (m8 c8 : Nat) (n62 n63 : Int) (y0 : D) (n1_0 : Int) (s1_1 s1_2 : ByteArray) (n1_3 n1_4 : Int) (a1_5 : Option Addr) (e1_5 : List D) (c1_5 : Nat) (n1_6 : Int) (a1_7 : Option Addr) (e1_7 : List D) (c1_7 : Nat) (a1_8 : Option Addr) (e1_8 : List D) (c1_8 : Nat) (a2_0 : Option Addr) (e2_0 : List D) (c2_0 : Nat) (r3 : List D) (q3 : Nat) (N : Nat) : Prop := AT prog 47 [.ag 9] Q N0 .ord (loopAt prog 47 15) ⟨an 3 (.pb 0 0 0 0 :: .pb 1 0 0 0 :: .fn 105 [.pb 2 0 0 0, .pb 0 0 0 0] :: an 2 (.sb 3 9 0 m8 c8 :: an 53 (.int .i64 n62 :: .int .i64 n63 :: an 14 []))), [.vd y0 9, .var [.int .i64 n1_0, .str s1_1, .str s1_2, .int .i64 n1_3, .int .i64 n1_4, .sv a1_5 2 e1_5 c1_5, .int .i64 n1_6, .sv a1_7 2 e1_7 c1_7, .sv a1_8 9 e1_8 c1_8], .var [.sv a2_0 3 e2_0 c2_0], .arr 36 9 r3 q3], N, none⟩
def L_laws_heldTermS_2 (Q : QT [.int .i64]) (N0 : Nat) (a0 : Option Addr) (e0 : List D) (c0 : Nat) (n1 n5 : Int) (N : Nat) : Prop := AT prog 35 [.int .i64] Q N0 .ord (loopAt prog 35 2) ⟨.sv a0 9 e0 c0 :: .int .i64 n1 :: an 3 (.int .i64 n5 :: an 94 []), [], N, none⟩
def L_impl_Term_mapped_3 (Q : QT [.ag 9]) (N0 : Nat) (m5 c5 : Nat) (a10 : Option Addr) (e10 : List D) (c10 : Nat) (n11 n12 : Int) (y0 : D) (n1_0 : Int) (s1_1 s1_2 : ByteArray) (n1_3 n1_4 : Int) (a1_5 : Option Addr) (e1_5 : List D) (c1_5 : Nat) (n1_6 : Int) (a1_7 : Option Addr) (e1_7 : List D) (c1_7 : Nat) (a1_8 : Option Addr) (e1_8 : List D) (c1_8 : Nat) (r2 : List D) (q2 : Nat) (N : Nat) : Prop := AT prog 152 [.ag 9] Q N0 .ord (loopAt prog 152 3) ⟨an 1 (.fn 104 [] :: .pb 0 0 0 0 :: an 1 (.pb 1 0 0 0 :: .sb 2 9 0 m5 c5 :: an 4 (.sv a10 9 e10 c10 :: .int .i64 n11 :: .int .i64 n12 :: an 13 []))), [.vd y0 9, .var [.int .i64 n1_0, .str s1_1, .str s1_2, .int .i64 n1_3, .int .i64 n1_4, .sv a1_5 2 e1_5 c1_5, .int .i64 n1_6, .sv a1_7 2 e1_7 c1_7, .sv a1_8 9 e1_8 c1_8], .arr 36 9 r2 q2], N, none⟩
theorem w_spec_l5Copy (N : Nat) (x0 : D) (Q : QT [.pk, .int .i64, .str, .str, .int .i64, .dc, .dc, .dc, .dc, .row 36 9]) (h :
Bel N x0 → ∃ n : Int, (x0.cell 0) = D.lit (.int .i64 n) ∧ ∃ s, (x0.cell 1) = D.lit (.string s) ∧ ∃ s_1, (x0.cell 2) = D.lit (.string s_1) ∧ ∃ n_1 : Int, (x0.cell
 3) = D.lit (.int .i64 n_1) ∧ ∀ N1, N ≤ N1 → ACalls prog 109 [.ag 2] [.dg 2 (D.sub x0 4 2)] N1 (fun x N2 => N1 ≤ N2 → Bel N2 x → ∀ N3, N2 ≤ N3 → ACalls
 prog 109 [.ag 2] [.dg 2 (D.sub x0 6 2)] N3 (fun x_1 N4 => N3 ≤ N4 → Bel N4 x_1 → L_spec_l5Copy_3 Q N 0 x0 0 (bytes []) (bytes []) 0 0 Option.none [] 0 0 Option.none
 [] 0 Option.none [] 0 n s s_1 n_1 (x.cell 0) (x.cell 1) (x_1.cell 0) (x_1.cell 1) 0 0 [] 0 N4))) : ACalls prog 75 [.pk, .int .i64, .str, .str, .int .i64, .dc, .dc, .dc, .dc, .row 36 9] [PV.dg 9 x0] N Q :=
  eE (H := H_spec_l5Copy) (by kernel_rfl) (by kernel_rfl) h
theorem w_spec_l5Node (N : Nat) (n0 : Int) (a1 : Option Addr) (e1 : List D) (c1 : Nat) (Q : QT [.ag 9]) (h :
Bel N (D.sl a1 9 e1 c1) → L_spec_l5Node_3 Q N a1 e1 c1 0 0 (bytes []) (bytes []) 0 0 Option.none [] 0 0 Option.none [] 0 Option.none [] 0 n0 (bytes []) (bytes [])
 0 0 Option.none [] 0 0 Option.none [] 0 0 0 [] 0 N) : ACalls prog 90 [.ag 9] [PV.int .i64 n0, PV.sv a1 9 e1 c1] N Q :=
  eE (H := H_spec_l5Node) (by kernel_rfl) (by kernel_rfl) h
theorem w_spec_l5Let (N : Nat) (s0 : ByteArray) (x1 x2 : D) (Q : QT [.ag 9]) (h :
Bel N x1 → Bel N x2 → (2 = ([x1, x2]).length ∧ 2 = 2) ∧ ∀ a, ApA a [x1, x2] → ∀ N1, N ≤ N1 → BelA N1 [a] → ACalls prog 90 [.ag 9] [.int .i64 8, .sv a 9 [x1, x2]
 2] N1 (fun x N2 => N1 ≤ N2 → Off [a] x ∧ (Bel N2 x → ∀ N3, N2 ≤ N3 → Q (D.ag [(x.cell 0), D.lit (.string s0), (x.cell 2), (x.cell 3), (x.cell 4), (x.cell
 5), (x.cell 6), (x.cell 7), (x.cell 8)]) N3))) : ACalls prog 91 [.ag 9] [PV.str s0, PV.dg 9 x1, PV.dg 9 x2] N Q :=
  eE (H := H_spec_l5Let) (by kernel_rfl) (by kernel_rfl) h
theorem w_spec_l17Quote (N : Nat) (x0 : D) (Q : QT [.ag 9]) (h :
Bel N x0 → (1 = ([x0]).length ∧ 1 = 1) ∧ ∀ a, ApA a [x0] → ∀ N1, N ≤ N1 → BelA N1 [a] → ACalls prog 90 [.ag 9] [.int .i64 10, .sv a 9 [x0] 1] N1 (fun x N2 =>
 N1 ≤ N2 → Off [a] x ∧ (Bel N2 x → ∀ N3, N2 ≤ N3 → Q x N3))) : ACalls prog 65 [.ag 9] [PV.dg 9 x0] N Q :=
  eE (H := H_spec_l17Quote) (by kernel_rfl) (by kernel_rfl) h
theorem w_spec_l17Splice (N : Nat) (x0 : D) (Q : QT [.ag 9]) (h :
Bel N x0 → (1 = ([x0]).length ∧ 1 = 1) ∧ ∀ a, ApA a [x0] → ∀ N1, N ≤ N1 → BelA N1 [a] → ACalls prog 90 [.ag 9] [.int .i64 11, .sv a 9 [x0] 1] N1 (fun x N2 =>
 N1 ≤ N2 → Off [a] x ∧ (Bel N2 x → ∀ N3, N2 ≤ N3 → Q x N3))) : ACalls prog 66 [.ag 9] [PV.dg 9 x0] N Q :=
  eE (H := H_spec_l17Splice) (by kernel_rfl) (by kernel_rfl) h
theorem w_spec_l17All (N : Nat) (x0 : D) (a1 : Option Addr) (e1 : List D) (c1 : Nat) (Q : QT [.ag 9]) (h :
Bel N x0 → Bel N (D.sl a1 2 e1 c1) → ∀ N1, N ≤ N1 → ACalls prog 75 [Sh.pk, .int .i64, .str, .str, .int .i64, Sh.dc, Sh.dc, Sh.dc, Sh.dc, .row (OfNat.ofNat 36)
 9] [.dg 9 x0] N1 (fun n s s_1 n_1 x x_1 x_2 x_3 es c N2 => N1 ≤ N2 → Bel N2 (D.ag es) → L_spec_l17All_3 Q N a1 e1 c1 0 x0 0 (bytes []) (bytes []) 0 0 Option.none
 [] 0 0 Option.none [] 0 Option.none [] 0 n s s_1 n_1 x x_1 x_2 x_3 es.length c es c N2)) : ACalls prog 93 [.ag 9] [PV.dg 9 x0, PV.sv a1 2 e1 c1] N Q :=
  eE (H := H_spec_l17All) (by kernel_rfl) (by kernel_rfl) h
theorem w_spec_l17Code (N : Nat) (x0 : D) (a1 : Option Addr) (e1 : List D) (c1 : Nat) (Q : QT [.ag 9]) (h :
Bel N x0 → Bel N (D.sl a1 2 e1 c1) → ∀ N1, N ≤ N1 → ACalls prog 89 [.bool] [.dg 9 x0, .sv a1 2 e1 c1] N1 (fun b N2 => N1 ≤ N2 → Br (!b) ((1 = ([x0]).length
 ∧ 1 = 1) ∧ ∀ a, ApA a [x0] → ∀ N3, N2 ≤ N3 → BelA N3 [a] → ACalls prog 90 [.ag 9] [.int .i64 13, .sv a 9 [x0] 1] N3 (fun x N4 => N3 ≤ N4 → Off [a] x ∧ (Bel
 N4 x → ∀ N5, N4 ≤ N5 → Q x N5))) (∃ n : Int, (x0.cell 0) = D.lit (.int .i64 n) ∧ Br (n == 1) (∀ N6, N2 ≤ N6 → ACalls prog 65 [.ag 9] [.dg 9 x0] N6 (fun
 x_1 N7 => N6 ≤ N7 → Bel N7 x_1 → ∀ N8, N7 ≤ N8 → Q x_1 N8)) (∃ n_1 : Int, (x0.cell 0) = D.lit (.int .i64 n_1) ∧ Br (n_1 == 5) (∃ a_1 es, ∃ c : Nat, (x0.cell
 8) = D.sl a_1 9 es c ∧ ((0 : Int) ≤ (0 : Int) ∧ 0 < (es.length : Int)) ∧ ∀ N9, N2 ≤ N9 → ACalls prog 89 [.bool] [.dg 9 (List.getD es 0 default), .sv a1 2 e1 c1]
 N9 (fun b_1 N10 => N9 ≤ N10 → Br (!b_1) (∃ a_2 es_1, ∃ c_1 : Nat, (x0.cell 8) = D.sl a_2 9 es_1 c_1 ∧ ((0 : Int) ≤ (0 : Int) ∧ 0 < (es_1.length : Int)) ∧ ∃ a_3
 es_2, ∃ c_2 : Nat, (x0.cell 8) = D.sl a_3 9 es_2 c_2 ∧ ((0 : Int) ≤ (1 : Int) ∧ 1 < (es_2.length : Int)) ∧ ∃ a_4 es_3, ∃ c_3 : Nat, (x0.cell 8) = D.sl a_4 9 es_3
 c_3 ∧ ((0 : Int) ≤ (2 : Int) ∧ 2 < (es_3.length : Int)) ∧ ∀ N11, N10 ≤ N11 → ACalls prog 40 [.ag 9] [.dg 9 (List.getD es_2 1 default), .sv a1 2 e1 c1] N11 (fun
 x_2 N12 => N11 ≤ N12 → Bel N12 x_2 → ∀ N13, N12 ≤ N13 → ACalls prog 40 [.ag 9] [.dg 9 (List.getD es_3 2 default), .sv a1 2 e1 c1] N13 (fun x_3 N14 => N13
 ≤ N14 → Bel N14 x_3 → (3 = ([List.getD es_1 0 default, x_2, x_3]).length ∧ 3 = 3) ∧ ∀ a_5, ApA a_5 [List.getD es_1 0 default, x_2, x_3] → ∀ N15, N14 ≤ N15 →
 BelA N15 [a_5] → ACalls prog 90 [.ag 9] [.int .i64 5, .sv a_5 9 [List.getD es_1 0 default, x_2, x_3] 3] N15 (fun x_4 N16 => N15 ≤ N16 → Off [a_5] x_4 ∧ (Bel
 N16 x_4 → ∀ N17, N16 ≤ N17 → Q x_4 N17))))) (∃ n_2 : Int, (x0.cell 0) = D.lit (.int .i64 n_2) ∧ Br (n_2 == 8) (∃ a_6 es_4, ∃ c_4 : Nat, (x0.cell 8) = D.sl a_6
 9 es_4 c_4 ∧ ((0 : Int) ≤ (0 : Int) ∧ 0 < (es_4.length : Int)) ∧ ∀ N18, N10 ≤ N18 → ACalls prog 89 [.bool] [.dg 9 (List.getD es_4 0 default), .sv a1 2 e1 c1]
 N18 (fun b_2 N19 => N18 ≤ N19 → Br (!b_2) (∃ s, (x0.cell 1) = D.lit (.string s) ∧ ∃ a_7 es_5, ∃ c_5 : Nat, (x0.cell 8) = D.sl a_7 9 es_5 c_5 ∧ ((0 : Int) ≤ (0
 : Int) ∧ 0 < (es_5.length : Int)) ∧ ∃ a_8 es_6, ∃ c_6 : Nat, (x0.cell 8) = D.sl a_8 9 es_6 c_6 ∧ ((0 : Int) ≤ (1 : Int) ∧ 1 < (es_6.length : Int)) ∧ ∃ s_1, (x0.cell
 1) = D.lit (.string s_1) ∧ ∀ N20, N19 ≤ N20 → ACalls prog 92 [.sl 2] [.sv a1 2 e1 c1, .str s_1, .bool false] N20 (fun a_9 es_7 c_7 N21 => N20 ≤ N21 → Bel
 N21 (D.sl a_9 2 es_7 c_7) → ∀ N22, N21 ≤ N22 → ACalls prog 40 [.ag 9] [.dg 9 (List.getD es_6 1 default), .sv a_9 2 es_7 c_7] N22 (fun x_5 N23 => N22 ≤ N23
 → Bel N23 x_5 → ∀ N24, N23 ≤ N24 → ACalls prog 91 [.ag 9] [.str s, .dg 9 (List.getD es_5 0 default), .dg 9 x_5] N24 (fun x_6 N25 => N24 ≤ N25 → Bel N25
 x_6 → ∀ N26, N25 ≤ N26 → Q x_6 N26)))) (∀ N27, N19 ≤ N27 → ACalls prog 93 [.ag 9] [.dg 9 x0, .sv a1 2 e1 c1] N27 (fun x_7 N28 => N27 ≤ N28 → Bel N28
 x_7 → ∀ N29, N28 ≤ N29 → Q x_7 N29)))) (∀ N30, N10 ≤ N30 → ACalls prog 93 [.ag 9] [.dg 9 x0, .sv a1 2 e1 c1] N30 (fun x_8 N31 => N30 ≤ N31 → Bel N31
 x_8 → ∀ N32, N31 ≤ N32 → Q x_8 N32))))) (∃ n_3 : Int, (x0.cell 0) = D.lit (.int .i64 n_3) ∧ Br (n_3 == 8) (∃ a_10 es_8, ∃ c_8 : Nat, (x0.cell 8) = D.sl a_10
 9 es_8 c_8 ∧ ((0 : Int) ≤ (0 : Int) ∧ 0 < (es_8.length : Int)) ∧ ∀ N33, N2 ≤ N33 → ACalls prog 89 [.bool] [.dg 9 (List.getD es_8 0 default), .sv a1 2 e1 c1] N33
 (fun b_3 N34 => N33 ≤ N34 → Br (!b_3) (∃ s_2, (x0.cell 1) = D.lit (.string s_2) ∧ ∃ a_11 es_9, ∃ c_9 : Nat, (x0.cell 8) = D.sl a_11 9 es_9 c_9 ∧ ((0 : Int) ≤
 (0 : Int) ∧ 0 < (es_9.length : Int)) ∧ ∃ a_12 es_10, ∃ c_10 : Nat, (x0.cell 8) = D.sl a_12 9 es_10 c_10 ∧ ((0 : Int) ≤ (1 : Int) ∧ 1 < (es_10.length : Int)) ∧ ∃
 s_3, (x0.cell 1) = D.lit (.string s_3) ∧ ∀ N35, N34 ≤ N35 → ACalls prog 92 [.sl 2] [.sv a1 2 e1 c1, .str s_3, .bool false] N35 (fun a_13 es_11 c_11 N36 => N35
 ≤ N36 → Bel N36 (D.sl a_13 2 es_11 c_11) → ∀ N37, N36 ≤ N37 → ACalls prog 40 [.ag 9] [.dg 9 (List.getD es_10 1 default), .sv a_13 2 es_11 c_11] N37 (fun x_9
 N38 => N37 ≤ N38 → Bel N38 x_9 → ∀ N39, N38 ≤ N39 → ACalls prog 91 [.ag 9] [.str s_2, .dg 9 (List.getD es_9 0 default), .dg 9 x_9] N39 (fun x_10 N40 =>
 N39 ≤ N40 → Bel N40 x_10 → ∀ N41, N40 ≤ N41 → Q x_10 N41)))) (∀ N42, N34 ≤ N42 → ACalls prog 93 [.ag 9] [.dg 9 x0, .sv a1 2 e1 c1] N42 (fun x_11 N43
 => N42 ≤ N43 → Bel N43 x_11 → ∀ N44, N43 ≤ N44 → Q x_11 N44)))) (∀ N45, N2 ≤ N45 → ACalls prog 93 [.ag 9] [.dg 9 x0, .sv a1 2 e1 c1] N45 (fun x_12 N46
 => N45 ≤ N46 → Bel N46 x_12 → ∀ N47, N46 ≤ N47 → Q x_12 N47))))))) : ACalls prog 40 [.ag 9] [PV.dg 9 x0, PV.sv a1 2 e1 c1] N Q :=
  eE (H := H_spec_l17Code) (by kernel_rfl) (by kernel_rfl) h
theorem w_spec_CodeFor (N : Nat) (a0 : Option Addr) (e0 : List D) (c0 : Nat) (x1 : D) (Q : QT [.ag 9]) (h :
Bel N (D.sl a0 4 e0 c0) → Bel N x1 → ∀ N1, N ≤ N1 → ACalls prog 39 [.ag 2, .bool] [.sv a0 4 e0 c0, .dg 9 x1] N1 (fun x b N2 => N1 ≤ N2 → Bel N2 x → Br (!b)
 (∀ N3, N2 ≤ N3 → Q (D.ag [D.lit (.int .i64 0), D.lit (.string (bytes [])), D.lit (.string (bytes [])), D.lit (.int .i64 0), D.lit (.int .i64 0), D.sl Option.none
 2 [] 0, D.lit (.int .i64 0), D.sl Option.none 2 [] 0, D.sl Option.none 9 [] 0]) N3) (∀ N4, N2 ≤ N4 → ACalls prog 41 [.sl 2] [.sv a0 4 e0 c0] N4 (fun a es c
 N5 => N4 ≤ N5 → Bel N5 (D.sl a 2 es c) → ∀ N6, N5 ≤ N6 → ACalls prog 40 [.ag 9] [.dg 9 x1, .sv a 2 es c] N6 (fun x_1 N7 => N6 ≤ N7 → Bel N7 x_1 → ∀ N8,
 N7 ≤ N8 → Q x_1 N8))))) : ACalls prog 11 [.ag 9] [PV.sv a0 4 e0 c0, PV.dg 9 x1] N Q :=
  eE (H := H_spec_CodeFor) (by kernel_rfl) (by kernel_rfl) h
theorem w_impl_Term_node (N : Nat) (x0 : D) (a1 : Option Addr) (e1 : List D) (c1 : Nat) (Q : QT [.ag 9]) (h :
Bel N x0 → Bel N (D.sl a1 9 e1 c1) → ∃ n : Int, (x0.cell 0) = D.lit (.int .i64 n) ∧ ∃ s, (x0.cell 1) = D.lit (.string s) ∧ ∃ s_1, (x0.cell 2) = D.lit (.string s_1)
 ∧ ∃ n_1 : Int, (x0.cell 3) = D.lit (.int .i64 n_1) ∧ ∀ N1, N ≤ N1 → ACalls prog 111 [.ag 2] [.dg 2 (D.sub x0 4 2)] N1 (fun x N2 => N1 ≤ N2 → Bel N2 x → ∀
 N3, N2 ≤ N3 → ACalls prog 111 [.ag 2] [.dg 2 (D.sub x0 6 2)] N3 (fun x_1 N4 => N3 ≤ N4 → Bel N4 x_1 → ∀ N5, N4 ≤ N5 → Q (D.ag [D.lit (.int .i64 n), D.lit
 (.string s), D.lit (.string s_1), D.lit (.int .i64 n_1), (x.cell 0), (x.cell 1), (x_1.cell 0), (x_1.cell 1), D.sl a1 9 e1 c1]) N5))) : ACalls prog 107 [.ag 9] [PV.dg 9 x0, PV.sv a1 9 e1 c1] N Q :=
  eE (H := H_impl_Term_node) (by kernel_rfl) (by kernel_rfl) h
theorem w_impl_Term_own (N : Nat) (x0 : D) (Q : QT [.ag 9]) (h :
Bel N x0 → ∀ N1, N ≤ N1 → ACalls prog 152 [.ag 9] [.dg 9 x0, .fn 104 []] N1 (fun x N2 => N1 ≤ N2 → Bel N2 x → ∀ N3, N2 ≤ N3 → Q x N3)) : ACalls prog 104 [.ag 9] [PV.dg 9 x0] N Q :=
 eE (H := H_impl_Term_own) (by kernel_rfl) (by kernel_rfl) h
theorem w_impl_tmForm (N : Nat) (n0 : Int) (a1 : Option Addr) (e1 : List D) (c1 : Nat) (Q : QT [.ag 9]) (h :
Bel N (D.sl a1 9 e1 c1) → ∀ N1, N ≤ N1 → Q (D.ag [D.lit (.int .i64 n0), D.lit (.string (bytes [])), D.lit (.string (bytes [])), D.lit (.int .i64 0), D.lit (.int
 .i64 0), D.sl Option.none 2 [] 0, D.lit (.int .i64 0), D.sl Option.none 2 [] 0, D.sl a1 9 e1 c1]) N1) : ACalls prog 103 [.ag 9] [PV.int .i64 n0, PV.sv a1 9 e1 c1] N Q :=
  eE (H := H_impl_tmForm) (by kernel_rfl) (by kernel_rfl) h
theorem w_impl_quoted (N : Nat) (x0 : D) (Q : QT [.ag 9]) (h :
Bel N x0 → (1 = ([x0]).length ∧ 1 = 1) ∧ ∀ a N1, N ≤ N1 → Fresh N N1 a [D.ag [x0]] → ∀ N2, N1 ≤ N2 → ACalls prog 103 [.ag 9] [.int .i64 10, .sv a 9 [x0] 1]
 N2 (fun x N3 => N2 ≤ N3 → Bel N3 x → ∀ N4, N3 ≤ N4 → Q x N4)) : ACalls prog 68 [.ag 9] [PV.dg 9 x0] N Q :=
  eE (H := H_impl_quoted) (by kernel_rfl) (by kernel_rfl) h
theorem w_impl_spliced (N : Nat) (x0 : D) (Q : QT [.ag 9]) (h :
Bel N x0 → (1 = ([x0]).length ∧ 1 = 1) ∧ ∀ a N1, N ≤ N1 → Fresh N N1 a [D.ag [x0]] → ∀ N2, N1 ≤ N2 → ACalls prog 103 [.ag 9] [.int .i64 11, .sv a 9 [x0] 1]
 N2 (fun x N3 => N2 ≤ N3 → Bel N3 x → ∀ N4, N3 ≤ N4 → Q x N4)) : ACalls prog 69 [.ag 9] [PV.dg 9 x0] N Q :=
  eE (H := H_impl_spliced) (by kernel_rfl) (by kernel_rfl) h
theorem w_impl_places_code (N : Nat) (a0 : Option Addr) (e0 : List D) (c0 : Nat) (x1 : D) (Q : QT [.ag 9]) (h :
Bel N (D.sl a0 3 e0 c0) → Bel N x1 → ∀ N1, N ≤ N1 → ACalls prog 102 [.bool] [.sv a0 3 e0 c0, .dg 9 x1] N1 (fun b N2 => N1 ≤ N2 → Br (!b) (∀ N3, N2 ≤ N3
 → ACalls prog 104 [.ag 9] [.dg 9 x1] N3 (fun x N4 => N3 ≤ N4 → Bel N4 x → (1 = ([x]).length ∧ 1 = 1) ∧ ∀ a N5, N4 ≤ N5 → Fresh N N5 a [D.ag [x]] → ∀ N6,
 N5 ≤ N6 → ACalls prog 103 [.ag 9] [.int .i64 13, .sv a 9 [x] 1] N6 (fun x_1 N7 => N6 ≤ N7 → Bel N7 x_1 → ∀ N8, N7 ≤ N8 → Q x_1 N8))) (∃ n : Int, (x1.cell
 0) = D.lit (.int .i64 n) ∧ Br (n == 1) (∀ N9, N2 ≤ N9 → ACalls prog 104 [.ag 9] [.dg 9 x1] N9 (fun x_2 N10 => N9 ≤ N10 → Bel N10 x_2 → ∀ N11, N10 ≤ N11
 → ACalls prog 68 [.ag 9] [.dg 9 x_2] N11 (fun x_3 N12 => N11 ≤ N12 → Bel N12 x_3 → ∀ N13, N12 ≤ N13 → Q x_3 N13))) (∃ n_1 : Int, (x1.cell 0) = D.lit (.int
 .i64 n_1) ∧ Br (bne n_1 4) (∃ a_1 es, ∃ c : Nat, (x1.cell 8) = D.sl a_1 9 es c ∧ ((0 : Int) ≤ (0 : Int) ∧ 0 < (es.length : Int)) ∧ ∀ N14, N2 ≤ N14 → ACalls prog
 102 [.bool] [.sv a0 3 e0 c0, .dg 9 (List.getD es 0 default)] N14 (fun b_1 N15 => N14 ≤ N15 → Br (!b_1) (∃ a_2 es_1, ∃ c_1 : Nat, (x1.cell 8) = D.sl a_2 9 es_1
 c_1 ∧ ((0 : Int) ≤ (0 : Int) ∧ 0 < (es_1.length : Int)) ∧ ∀ N16, N15 ≤ N16 → ACalls prog 104 [.ag 9] [.dg 9 (List.getD es_1 0 default)] N16 (fun x_4 N17 =>
 N16 ≤ N17 → Bel N17 x_4 → L_impl_places_code_9 Q N 1 1 1 x1 0 (bytes []) (bytes []) 0 0 Option.none [] 0 0 Option.none [] 0 Option.none [] 0 a0 e0 c0 [x_4] 1
 N17)) (∃ a_3 es_2, ∃ c_2 : Nat, (x1.cell 8) = D.sl a_3 9 es_2 c_2 ∧ L_impl_places_code_15 Q N 0 0 (es_2.length : Int) 0 x1 0 (bytes []) (bytes []) 0 0 Option.none
 [] 0 0 Option.none [] 0 Option.none [] 0 a0 e0 c0 [] 0 N15))) (∃ a_4 es_3, ∃ c_3 : Nat, (x1.cell 8) = D.sl a_4 9 es_3 c_3 ∧ L_impl_places_code_15 Q N 0 0 (es_3.length
 : Int) 0 x1 0 (bytes []) (bytes []) 0 0 Option.none [] 0 0 Option.none [] 0 Option.none [] 0 a0 e0 c0 [] 0 N2))))) : ACalls prog 47 [.ag 9] [PV.sv a0 3 e0 c0, PV.dg 9 x1] N Q :=
  eE (H := H_impl_places_code) (by kernel_rfl) (by kernel_rfl) h
theorem w_impl_CodeFor (N : Nat) (a0 : Option Addr) (e0 : List D) (c0 : Nat) (x1 : D) (Q : QT [.ag 9]) (h :
Bel N (D.sl a0 4 e0 c0) → Bel N x1 → ∀ N1, N ≤ N1 → ACalls prog 45 [.ag 2, .bool] [.sv a0 4 e0 c0, .dg 9 x1] N1 (fun x b N2 => N1 ≤ N2 → Bel N2 x → Br (!b)
 (∀ N3, N2 ≤ N3 → Q (D.ag [D.lit (.int .i64 0), D.lit (.string (bytes [])), D.lit (.string (bytes [])), D.lit (.int .i64 0), D.lit (.int .i64 0), D.sl Option.none
 2 [] 0, D.lit (.int .i64 0), D.sl Option.none 2 [] 0, D.sl Option.none 9 [] 0]) N3) (∀ N4, N2 ≤ N4 → ACalls prog 46 [.sl 3] [.sv a0 4 e0 c0, .sv Option.none
 0 [] 0] N4 (fun a es c N5 => N4 ≤ N5 → Bel N5 (D.sl a 3 es c) → ∀ N6, N5 ≤ N6 → ACalls prog 47 [.ag 9] [.sv a 3 es c, .dg 9 x1] N6 (fun x_1 N7 => N6 ≤
 N7 → Bel N7 x_1 → ∀ N8, N7 ≤ N8 → Q x_1 N8))))) : ACalls prog 14 [.ag 9] [PV.sv a0 4 e0 c0, PV.dg 9 x1] N Q :=
  eE (H := H_impl_CodeFor) (by kernel_rfl) (by kernel_rfl) h
theorem w_laws_heldTermS (N : Nat) (a0 : Option Addr) (e0 : List D) (c0 : Nat) (n1 : Int) (Q : QT [.int .i64]) (h :
Bel N (D.sl a0 9 e0 c0) → L_laws_heldTermS_2 Q N a0 e0 c0 n1 0 N) : ACalls prog 35 [.int .i64] [PV.sv a0 9 e0 c0, PV.int .i64 n1] N Q :=
 eE (H := H_laws_heldTermS) (by kernel_rfl) (by kernel_rfl) h
theorem w_laws_heldTerm (N : Nat) (x0 : D) (n1 : Int) (Q : QT [.int .i64]) (h :
Bel N x0 → ∀ N1, N ≤ N1 → ACalls prog 53 [.int .i64] [.dg 2 (D.sub x0 4 2), .int .i64 n1] N1 (fun n N2 => N1 ≤ N2 → Br (decide (n < 0)) (∀ N3, N2 ≤ N3 →
 Q (-1) N3) (∀ N4, N2 ≤ N4 → ACalls prog 53 [.int .i64] [.dg 2 (D.sub x0 6 2), .int .i64 n] N4 (fun n_1 N5 => N4 ≤ N5 → Br (decide (n_1 < 0)) (∀ N6, N5
 ≤ N6 → Q (-1) N6) (∃ a es, ∃ c : Nat, (x0.cell 8) = D.sl a 9 es c ∧ ∀ N7, N5 ≤ N7 → ACalls prog 35 [.int .i64] [.sv a 9 es c, .int .i64 n_1] N7 (fun n_2 N8
 => N7 ≤ N8 → Br (decide (n_2 < 0)) (∀ N9, N8 ≤ N9 → Q (-1) N9) (∀ N10, N8 ≤ N10 → Q n_2 N10))))))) : ACalls prog 19 [.int .i64] [PV.dg 9 x0, PV.int .i64 n1] N Q :=
  eE (H := H_laws_heldTerm) (by kernel_rfl) (by kernel_rfl) h
theorem w_laws_FnExactCodeFor (N : Nat) (a0 : Option Addr) (e0 : List D) (c0 : Nat) (x1 : D) (Q : QT [.bool]) (h :
Bel N (D.sl a0 4 e0 c0) → Bel N x1 → ∀ N1, N ≤ N1 → ACalls prog 9 [.int .i64] [.sv a0 4 e0 c0, .int .i64 1048576] N1 (fun n N2 => N1 ≤ N2 → Br (decide (n <
 0)) (∀ N3, N2 ≤ N3 → Q true N3) (∀ N4, N2 ≤ N4 → ACalls prog 10 [.int .i64] [.dg 9 x1, .int .i64 n] N4 (fun n_1 N5 => N4 ≤ N5 → Br (decide (n_1 < 0))
 (∀ N6, N5 ≤ N6 → Q true N6) (∀ N7, N5 ≤ N7 → ACalls prog 12 [.sl 4] [.sv a0 4 e0 c0] N7 (fun a es c N8 => N7 ≤ N8 → Bel N8 (D.sl a 4 es c) → ∀ N9, N8
 ≤ N9 → ACalls prog 13 [.ag 9] [.dg 9 x1] N9 (fun x N10 => N9 ≤ N10 → Bel N10 x → ∀ N11, N10 ≤ N11 → ACalls prog 11 [.ag 9] [.sv a 4 es c, .dg 9 x] N11
 (fun x_1 N12 => N11 ≤ N12 → Bel N12 x_1 → ∀ N13, N12 ≤ N13 → ACalls prog 12 [.sl 4] [.sv a0 4 e0 c0] N13 (fun a_1 es_1 c_1 N14 => N13 ≤ N14 → Bel N14
 (D.sl a_1 4 es_1 c_1) → ∀ N15, N14 ≤ N15 → ACalls prog 13 [.ag 9] [.dg 9 x1] N15 (fun x_2 N16 => N15 ≤ N16 → Bel N16 x_2 → ∀ N17, N16 ≤ N17 → ACalls prog
 14 [.ag 9] [.sv a_1 4 es_1 c_1, .dg 9 x_2] N17 (fun x_3 N18 => N17 ≤ N18 → Bel N18 x_3 → ∀ N19, N18 ≤ N19 → ACalls prog 15 [.bool] [.dg 9 x_3, .dg 9 x_1]
 N19 (fun b N20 => N19 ≤ N20 → Br (!b) (∀ N21, N20 ≤ N21 → Q false N21) (∀ N22, N20 ≤ N22 → ACalls prog 12 [.sl 4] [.sv a0 4 e0 c0] N22 (fun a_2 es_2
 c_2 N23 => N22 ≤ N23 → Bel N23 (D.sl a_2 4 es_2 c_2) → ∀ N24, N23 ≤ N24 → ACalls prog 16 [.bool] [.sv a_1 4 es_1 c_1, .sv a_2 4 es_2 c_2] N24 (fun b_1 N25
 => N24 ≤ N25 → Br (!b_1) (∀ N26, N25 ≤ N26 → Q false N26) (∀ N27, N25 ≤ N27 → ACalls prog 13 [.ag 9] [.dg 9 x1] N27 (fun x_4 N28 => N27 ≤ N28 → Bel
 N28 x_4 → ∀ N29, N28 ≤ N29 → ACalls prog 15 [.bool] [.dg 9 x_2, .dg 9 x_4] N29 (fun b_2 N30 => N29 ≤ N30 → Br (!b_2) (∀ N31, N30 ≤ N31 → Q false N31)
 (Tree (D.sl a_1 4 es_1 c_1) ∧ Low N (D.sl a_1 4 es_1 c_1) ∧ Dis (D.sl a_1 4 es_1 c_1) [D.sl a0 4 e0 c0, x1, x_1, x_2, x_3] ∧ ∀ N32, N30 ≤ N32 → MC prog 17 (D.sl
 a_1 4 es_1 c_1) 1 N32 (fun x_5 n_2 N33 => N32 ≤ N33 → Tree x_2 ∧ Low N x_2 ∧ x_2 = x_2 ∧ Dis x_2 [D.sl a0 4 e0 c0, x1, x_1, x_3] ∧ ∀ N34, N33 ≤ N34 → MC prog
 18 x_2 n_2 N34 (fun x_6 n_3 N35 => N34 ≤ N35 → Br (decide (n_3 < 0)) (∀ N36, N35 ≤ N36 → Q false N36) (∀ N37, N35 ≤ N37 → ACalls prog 15 [.bool] [.dg
 9 x_3, .dg 9 x_1] N37 (fun b_3 N38 => N37 ≤ N38 → Br (!b_3) (∀ N39, N38 ≤ N39 → Q false N39) (Tree x_3 ∧ Low N x_3 ∧ x_3 = x_3 ∧ Dis x_3 [D.sl a0 4 e0 c0,
 x1, x_1, x_6] ∧ ∀ N40, N38 ≤ N40 → MC prog 18 x_3 1 N40 (fun x_7 n_4 N41 => N40 ≤ N41 → ∀ N42, N41 ≤ N42 → ACalls prog 19 [.int .i64] [.dg 9 x_7, .int
 .i64 1] N42 (fun n_5 N43 => N42 ≤ N43 → Br (decide (n_5 < 0)) (∀ N44, N43 ≤ N44 → Q false N44) (Br (bne n_5 n_4) (∀ N45, N43 ≤ N45 → Q false N45) (∀
 N46, N43 ≤ N46 → ACalls prog 12 [.sl 4] [.sv a0 4 e0 c0] N46 (fun a_3 es_3 c_3 N47 => N46 ≤ N47 → Bel N47 (D.sl a_3 4 es_3 c_3) → ∀ N48, N47 ≤ N48 → ACalls
 prog 13 [.ag 9] [.dg 9 x1] N48 (fun x_8 N49 => N48 ≤ N49 → Bel N49 x_8 → ∀ N50, N49 ≤ N50 → ACalls prog 14 [.ag 9] [.sv a_3 4 es_3 c_3, .dg 9 x_8] N50 (fun
 x_9 N51 => N50 ≤ N51 → Bel N51 x_9 → ∀ N52, N51 ≤ N52 → ACalls prog 15 [.bool] [.dg 9 x_9, .dg 9 x_1] N52 (fun b_4 N53 => N52 ≤ N53 → Br (!b_4) (∀ N54,
 N53 ≤ N54 → Q false N54) (∀ N55, N53 ≤ N55 → ACalls prog 19 [.int .i64] [.dg 9 x_7, .int .i64 1] N55 (fun n_6 N56 => N55 ≤ N56 → Br (decide (n_6 < 0))
 (∀ N57, N56 ≤ N57 → Q false N57) (Br (bne n_6 n_4) (∀ N58, N56 ≤ N58 → Q false N58) (∀ N59, N56 ≤ N59 → Q true N59))))))))))))))))))))))))))))))))))) 
 ) : ACalls prog 3 [.bool] [PV.sv a0 4 e0 c0, PV.dg 9 x1] N Q :=
  eE (H := H_laws_FnExactCodeFor) (by kernel_rfl) (by kernel_rfl) h
theorem l_spec_l5Copy_3 (Q : QT [.pk, .int .i64, .str, .str, .int .i64, .dc, .dc, .dc, .dc, .row 36 9]) (N0 : Nat) (n4 : Int) (y0 : D) (n1_0 : Int) (s1_1 s1_2 : ByteArray) (n1_3 n1_4 : Int) (a1_5 : Option Addr) (e1_5 : List D) (c1_5 : Nat) (n1_6 : Int) (a1_7 : Option Addr) (e1_7 : List D) (c1_7 : Nat) (a1_8 : Option Addr) (e1_8 : List D) (c1_8 : Nat) (n2_0 : Int) (s2_1 s2_2 : ByteArray) (n2_3 : Int) (x2_4 x2_5 x2_6 x2_7 : D) (m2_8 c2_8 : Nat) (r3 : List D) (q3 : Nat) (N : Nat) (h :
∃ a es, ∃ c : Nat, (y0.cell 8) = D.sl a 9 es c ∧ Br (decide (n4 < (es.length : Int))) (∃ a_1 es_1, ∃ c_1 : Nat, (y0.cell 8) = D.sl a_1 9 es_1 c_1 ∧ (0 ≤ n4 ∧ n4
 < (es_1.length : Int)) ∧ ∀ N1, N ≤ N1 → ACalls prog 75 [Sh.pk, .int .i64, .str, .str, .int .i64, Sh.dc, Sh.dc, Sh.dc, Sh.dc, .row (OfNat.ofNat 36) 9] [.dg 9 (List.getD
 es_1 n4.toNat default)] N1 (fun n s s_1 n_1 x x_1 x_2 x_3 es_2 c_2 N2 => N1 ≤ N2 → Bel N2 (D.ag es_2) → (es_2.length = es_2.length ∧ c_2 = c_2) ∧ ∀ a_2 N3,
 N2 ≤ N3 → Fresh N0 N3 a_2 [D.ag es_2, x, x_1, x_2, x_3, x2_4, x2_5, x2_6, x2_7, D.ag r3] → (m2_8 = r3.length ∧ c2_8 = q3) ∧ apBound r3 [D.ag [D.lit (.int .i64
 n), D.lit (.string s), D.lit (.string s_1), D.lit (.int .i64 n_1), x, x_1, x_2, x_3, D.sl a_2 9 es_2 c_2]] 136 ∧ ∀ (c_3 : Nat), L_spec_l5Copy_3 Q N0 (IntKind.i64.wrap
 (n4 + 1)) y0 n1_0 s1_1 s1_2 n1_3 n1_4 a1_5 e1_5 c1_5 n1_6 a1_7 e1_7 c1_7 a1_8 e1_8 c1_8 n2_0 s2_1 s2_2 n2_3 x2_4 x2_5 x2_6 x2_7 (r3 ++ [D.ag [D.lit (.int .i64 n),
 D.lit (.string s), D.lit (.string s_1), D.lit (.int .i64 n_1), x, x_1, x_2, x_3, D.sl a_2 9 es_2 c_2]]).length c_3 (r3 ++ [D.ag [D.lit (.int .i64 n), D.lit (.string
 s), D.lit (.string s_1), D.lit (.int .i64 n_1), x, x_1, x_2, x_3, D.sl a_2 9 es_2 c_2]]) c_3 N3)) ((m2_8 = r3.length ∧ c2_8 = q3) ∧ ∀ N4, N ≤ N4 → Q n2_0 s2_1
 s2_2 n2_3 x2_4 x2_5 x2_6 x2_7 r3 c2_8 N4)) : L_spec_l5Copy_3 Q N0 n4 y0 n1_0 s1_1 s1_2 n1_3 n1_4 a1_5 e1_5 c1_5 n1_6 a1_7 e1_7 c1_7 a1_8 e1_8 c1_8 n2_0 s2_1 s2_2 n2_3 x2_4 x2_5 x2_6 x2_7 m2_8 c2_8 r3 q3 N :=
  hE (H := H_spec_l5Copy) (by kernel_rfl) h
theorem l_spec_l5Node_3 (Q : QT [.ag 9]) (N0 : Nat) (a1 : Option Addr) (e1 : List D) (c1 : Nat) (n6 n0_0 : Int) (s0_1 s0_2 : ByteArray) (n0_3 n0_4 : Int) (a0_5 : Option Addr) (e0_5 : List D) (c0_5 : Nat) (n0_6 : Int) (a0_7 : Option Addr) (e0_7 : List D) (c0_7 : Nat) (a0_8 : Option Addr) (e0_8 : List D) (c0_8 : Nat) (n1_0 : Int) (s1_1 s1_2 : ByteArray) (n1_3 n1_4 : Int) (a1_5 : Option Addr) (e1_5 : List D) (c1_5 : Nat) (n1_6 : Int) (a1_7 : Option Addr) (e1_7 : List D) (c1_7 m1_8 c1_8 : Nat) (r2 : List D) (q2 : Nat) (N : Nat) (h :
Br (decide (n6 < (e1.length : Int))) ((0 ≤ n6 ∧ n6 < (e1.length : Int)) ∧ ∀ N1, N ≤ N1 → ACalls prog 75 [Sh.pk, .int .i64, .str, .str, .int .i64, Sh.dc, Sh.dc,
 Sh.dc, Sh.dc, .row (OfNat.ofNat 36) 9] [.dg 9 (List.getD e1 n6.toNat default)] N1 (fun n s s_1 n_1 x x_1 x_2 x_3 es c N2 => N1 ≤ N2 → Bel N2 (D.ag es) → (es.length
 = es.length ∧ c = c) ∧ ∀ a N3, N2 ≤ N3 → Fresh N0 N3 a [D.ag es, x, x_1, x_2, x_3, D.sl a1_5 2 e1_5 c1_5, D.sl a1_7 2 e1_7 c1_7, D.ag r2] → (m1_8 = r2.length
 ∧ c1_8 = q2) ∧ apBound r2 [D.ag [D.lit (.int .i64 n), D.lit (.string s), D.lit (.string s_1), D.lit (.int .i64 n_1), x, x_1, x_2, x_3, D.sl a 9 es c]] 136 ∧ ∀ (c_1
 : Nat), L_spec_l5Node_3 Q N0 a1 e1 c1 (IntKind.i64.wrap (n6 + 1)) n0_0 s0_1 s0_2 n0_3 n0_4 a0_5 e0_5 c0_5 n0_6 a0_7 e0_7 c0_7 a0_8 e0_8 c0_8 n1_0 s1_1 s1_2 n1_3
 n1_4 a1_5 e1_5 c1_5 n1_6 a1_7 e1_7 c1_7 (r2 ++ [D.ag [D.lit (.int .i64 n), D.lit (.string s), D.lit (.string s_1), D.lit (.int .i64 n_1), x, x_1, x_2, x_3, D.sl
 a 9 es c]]).length c_1 (r2 ++ [D.ag [D.lit (.int .i64 n), D.lit (.string s), D.lit (.string s_1), D.lit (.int .i64 n_1), x, x_1, x_2, x_3, D.sl a 9 es c]]) c_1 N3))
 ((m1_8 = r2.length ∧ c1_8 = q2) ∧ (m1_8 = r2.length ∧ c1_8 = q2) ∧ (m1_8 = r2.length ∧ c1_8 = q2) ∧ ∀ a_1 N4, N ≤ N4 → Fresh N0 N4 a_1 [D.ag r2, D.sl a1_5 2 e1_5
 c1_5, D.sl a1_7 2 e1_7 c1_7] → ∀ N5, N4 ≤ N5 → Q (D.ag [D.lit (.int .i64 n1_0), D.lit (.string s1_1), D.lit (.string s1_2), D.lit (.int .i64 n1_3), D.lit (.int
 .i64 n1_4), D.sl a1_5 2 e1_5 c1_5, D.lit (.int .i64 n1_6), D.sl a1_7 2 e1_7 c1_7, D.sl a_1 9 r2 q2]) N5)) : L_spec_l5Node_3 Q N0 a1 e1 c1 n6 n0_0 s0_1 s0_2 n0_3 n0_4 a0_5 e0_5 c0_5 n0_6 a0_7 e0_7 c0_7 a0_8 e0_8 c0_8 n1_0 s1_1 s1_2 n1_3 n1_4 a1_5 e1_5 c1_5 n1_6 a1_7 e1_7 c1_7 m1_8 c1_8 r2 q2 N :=
  hE (H := H_spec_l5Node) (by kernel_rfl) h
theorem l_spec_l17All_3 (Q : QT [.ag 9]) (N0 : Nat) (a1 : Option Addr) (e1 : List D) (c1 : Nat) (n6 : Int) (y0 : D) (n1_0 : Int) (s1_1 s1_2 : ByteArray) (n1_3 n1_4 : Int) (a1_5 : Option Addr) (e1_5 : List D) (c1_5 : Nat) (n1_6 : Int) (a1_7 : Option Addr) (e1_7 : List D) (c1_7 : Nat) (a1_8 : Option Addr) (e1_8 : List D) (c1_8 : Nat) (n2_0 : Int) (s2_1 s2_2 : ByteArray) (n2_3 : Int) (x2_4 x2_5 x2_6 x2_7 : D) (m2_8 c2_8 : Nat) (r3 : List D) (q3 : Nat) (N : Nat) (h :
∃ a es, ∃ c : Nat, (y0.cell 8) = D.sl a 9 es c ∧ Br (decide (n6 < (es.length : Int))) (∃ n : Int, (y0.cell 0) = D.lit (.int .i64 n) ∧ Br (n == 8) (Br (n6 == 1) (∃
 s, (y0.cell 1) = D.lit (.string s) ∧ ∀ N1, N ≤ N1 → ACalls prog 92 [.sl 2] [.sv a1 2 e1 c1, .str s, .bool true] N1 (fun a_1 es_1 c_1 N2 => N1 ≤ N2 → Bel N2
 (D.sl a_1 2 es_1 c_1) → ∃ a_2 es_2, ∃ c_2 : Nat, (y0.cell 8) = D.sl a_2 9 es_2 c_2 ∧ (0 ≤ n6 ∧ n6 < (es_2.length : Int)) ∧ ∀ N3, N2 ≤ N3 → ACalls prog 40 [.ag
 9] [.dg 9 (List.getD es_2 n6.toNat default), .sv a_1 2 es_1 c_1] N3 (fun x N4 => N3 ≤ N4 → Bel N4 x → ∀ N5, N4 ≤ N5 → ACalls prog 66 [.ag 9] [.dg 9 x] N5
 (fun x_1 N6 => N5 ≤ N6 → Bel N6 x_1 → (0 ≤ n6 ∧ n6 < (m2_8 : Int) ∧ (0 + n6.toNat : Nat) < r3.length) ∧ (0 + n6.toNat : Nat) < r3.length ∧ L_spec_l17All_3 Q
 N0 a1 e1 c1 (IntKind.i64.wrap (n6 + 1)) y0 n1_0 s1_1 s1_2 n1_3 n1_4 a1_5 e1_5 c1_5 n1_6 a1_7 e1_7 c1_7 a1_8 e1_8 c1_8 n2_0 s2_1 s2_2 n2_3 x2_4 x2_5 x2_6 x2_7 m2_8
 c2_8 (List.set r3 (0 + n6.toNat : Nat) x_1) q3 N6)))) (∃ a_3 es_3, ∃ c_3 : Nat, (y0.cell 8) = D.sl a_3 9 es_3 c_3 ∧ (0 ≤ n6 ∧ n6 < (es_3.length : Int)) ∧ ∀ N7,
 N ≤ N7 → ACalls prog 40 [.ag 9] [.dg 9 (List.getD es_3 n6.toNat default), .sv a1 2 e1 c1] N7 (fun x_2 N8 => N7 ≤ N8 → Bel N8 x_2 → ∀ N9, N8 ≤ N9 → ACalls
 prog 66 [.ag 9] [.dg 9 x_2] N9 (fun x_3 N10 => N9 ≤ N10 → Bel N10 x_3 → (0 ≤ n6 ∧ n6 < (m2_8 : Int) ∧ (0 + n6.toNat : Nat) < r3.length) ∧ (0 + n6.toNat : Nat)
 < r3.length ∧ L_spec_l17All_3 Q N0 a1 e1 c1 (IntKind.i64.wrap (n6 + 1)) y0 n1_0 s1_1 s1_2 n1_3 n1_4 a1_5 e1_5 c1_5 n1_6 a1_7 e1_7 c1_7 a1_8 e1_8 c1_8 n2_0 s2_1 s2_2
 n2_3 x2_4 x2_5 x2_6 x2_7 m2_8 c2_8 (List.set r3 (0 + n6.toNat : Nat) x_3) q3 N10)))) (∃ a_4 es_4, ∃ c_4 : Nat, (y0.cell 8) = D.sl a_4 9 es_4 c_4 ∧ (0 ≤ n6 ∧ n6
 < (es_4.length : Int)) ∧ ∀ N11, N ≤ N11 → ACalls prog 40 [.ag 9] [.dg 9 (List.getD es_4 n6.toNat default), .sv a1 2 e1 c1] N11 (fun x_4 N12 => N11 ≤ N12 →
 Bel N12 x_4 → ∀ N13, N12 ≤ N13 → ACalls prog 66 [.ag 9] [.dg 9 x_4] N13 (fun x_5 N14 => N13 ≤ N14 → Bel N14 x_5 → (0 ≤ n6 ∧ n6 < (m2_8 : Int) ∧ (0 + n6.toNat
 : Nat) < r3.length) ∧ (0 + n6.toNat : Nat) < r3.length ∧ L_spec_l17All_3 Q N0 a1 e1 c1 (IntKind.i64.wrap (n6 + 1)) y0 n1_0 s1_1 s1_2 n1_3 n1_4 a1_5 e1_5 c1_5 n1_6
 a1_7 e1_7 c1_7 a1_8 e1_8 c1_8 n2_0 s2_1 s2_2 n2_3 x2_4 x2_5 x2_6 x2_7 m2_8 c2_8 (List.set r3 (0 + n6.toNat : Nat) x_5) q3 N14)))) ((m2_8 = r3.length ∧ c2_8 = q3)
 ∧ (m2_8 = r3.length ∧ c2_8 = q3) ∧ ∀ a_5 N15, N ≤ N15 → Fresh N0 N15 a_5 [D.ag r3] → ∀ N16, N15 ≤ N16 → ACalls prog 65 [.ag 9] [.dg 9 (D.ag [D.lit (.int .i64
 n2_0), D.lit (.string s2_1), D.lit (.string s2_2), D.lit (.int .i64 n2_3), x2_4, x2_5, x2_6, x2_7, D.sl a_5 9 r3 q3])] N16 (fun x_6 N17 => N16 ≤ N17 → Bel N17
 x_6 → ∀ N18, N17 ≤ N18 → Q x_6 N18))) : L_spec_l17All_3 Q N0 a1 e1 c1 n6 y0 n1_0 s1_1 s1_2 n1_3 n1_4 a1_5 e1_5 c1_5 n1_6 a1_7 e1_7 c1_7 a1_8 e1_8 c1_8 n2_0 s2_1 s2_2 n2_3 x2_4 x2_5 x2_6 x2_7 m2_8 c2_8 r3 q3 N :=
  hE (H := H_spec_l17All) (by kernel_rfl) h
theorem w_impl_Term_mapped_i0 (N : Nat) (x0 : D) (Q : QT [.ag 9]) (h :
Bel N x0 → ∃ a es, ∃ c : Nat, (x0.cell 8) = D.sl a 9 es c ∧ L_impl_Term_mapped_3 Q N 0 0 a es c (es.length : Int) 0 x0 0 (bytes []) (bytes []) 0 0 Option.none []
 0 0 Option.none [] 0 Option.none [] 0 [] 0 N) : ACalls prog 152 [.ag 9] [.dg 9 x0, .fn 104 []] N Q :=
  eE (H := H_impl_Term_mapped) (by kernel_rfl) (by kernel_rfl) h
theorem l_impl_places_code_9 (Q : QT [.ag 9]) (N0 : Nat) (m6 c6 : Nat) (n7 : Int) (y0 : D) (n1_0 : Int) (s1_1 s1_2 : ByteArray) (n1_3 n1_4 : Int) (a1_5 : Option Addr) (e1_5 : List D) (c1_5 : Nat) (n1_6 : Int) (a1_7 : Option Addr) (e1_7 : List D) (c1_7 : Nat) (a1_8 : Option Addr) (e1_8 : List D) (c1_8 : Nat) (a2_0 : Option Addr) (e2_0 : List D) (c2_0 : Nat) (r3 : List D) (q3 : Nat) (N : Nat) (h :
∃ a es, ∃ c : Nat, (y0.cell 8) = D.sl a 9 es c ∧ Br (decide (n7 < (es.length : Int))) (∀ ad, ApA (Option.some ad) [D.sl a2_0 3 e2_0 c2_0] → ∀ ad_1, ApA (Option.some
 ad_1) [y0] → ∀ N1, N ≤ N1 → BelA N1 [Option.some ad, Option.some ad_1] → ACalls prog 105 [.ag 9] [.int .i64 n7, .pd ad 0 (D.sl a2_0 3 e2_0 c2_0), .pd ad_1 9 y0]
 N1 (fun x N2 => N1 ≤ N2 → Off [Option.some ad, Option.some ad_1] x ∧ (Bel N2 x → (m6 = r3.length ∧ c6 = q3) ∧ apBound r3 [x] 136 ∧ ∀ (c_1 : Nat), L_impl_places_code_9
 Q N0 (r3 ++ [x]).length c_1 (IntKind.i64.wrap (n7 + 1)) y0 n1_0 s1_1 s1_2 n1_3 n1_4 a1_5 e1_5 c1_5 n1_6 a1_7 e1_7 c1_7 a1_8 e1_8 c1_8 a2_0 e2_0 c2_0 (r3 ++ [x])
 c_1 N2))) ((m6 = r3.length ∧ c6 = q3) ∧ (m6 = r3.length ∧ c6 = q3) ∧ ∀ a_1 N3, N ≤ N3 → Fresh N0 N3 a_1 [D.ag r3] → ∀ N4, N3 ≤ N4 → ACalls prog 107 [.ag 9]
 [.dg 9 y0, .sv a_1 9 r3 q3] N4 (fun x_1 N5 => N4 ≤ N5 → Bel N5 x_1 → ∀ N6, N5 ≤ N6 → Q x_1 N6))) : L_impl_places_code_9 Q N0 m6 c6 n7 y0 n1_0 s1_1 s1_2 n1_3 n1_4 a1_5 e1_5 c1_5 n1_6 a1_7 e1_7 c1_7 a1_8 e1_8 c1_8 a2_0 e2_0 c2_0 r3 q3 N :=
  hE (H := H_impl_places_code) (by kernel_rfl) h
theorem l_impl_places_code_15 (Q : QT [.ag 9]) (N0 : Nat) (m8 c8 : Nat) (n62 n63 : Int) (y0 : D) (n1_0 : Int) (s1_1 s1_2 : ByteArray) (n1_3 n1_4 : Int) (a1_5 : Option Addr) (e1_5 : List D) (c1_5 : Nat) (n1_6 : Int) (a1_7 : Option Addr) (e1_7 : List D) (c1_7 : Nat) (a1_8 : Option Addr) (e1_8 : List D) (c1_8 : Nat) (a2_0 : Option Addr) (e2_0 : List D) (c2_0 : Nat) (r3 : List D) (q3 : Nat) (N : Nat) (h :
Br (decide (n63 < n62)) (∀ ad, ApA (Option.some ad) [D.sl a2_0 3 e2_0 c2_0] → ∀ ad_1, ApA (Option.some ad_1) [y0] → ∀ N1, N ≤ N1 → BelA N1 [Option.some ad, Option.some
 ad_1] → ACalls prog 105 [.ag 9] [.int .i64 n63, .pd ad 0 (D.sl a2_0 3 e2_0 c2_0), .pd ad_1 9 y0] N1 (fun x N2 => N1 ≤ N2 → Off [Option.some ad, Option.some ad_1]
 x ∧ (Bel N2 x → ∀ N3, N2 ≤ N3 → ACalls prog 69 [.ag 9] [.dg 9 x] N3 (fun x_1 N4 => N3 ≤ N4 → Bel N4 x_1 → (m8 = r3.length ∧ c8 = q3) ∧ apBound r3 [x_1]
 136 ∧ ∀ (c : Nat), L_impl_places_code_15 Q N0 (r3 ++ [x_1]).length c n62 (IntKind.i64.wrap (n63 + 1)) y0 n1_0 s1_1 s1_2 n1_3 n1_4 a1_5 e1_5 c1_5 n1_6 a1_7 e1_7 c1_7
 a1_8 e1_8 c1_8 a2_0 e2_0 c2_0 (r3 ++ [x_1]) c N4)))) ((m8 = r3.length ∧ c8 = q3) ∧ (m8 = r3.length ∧ c8 = q3) ∧ ∀ a N5, N ≤ N5 → Fresh N0 N5 a [D.ag r3] → ∀
 N6, N5 ≤ N6 → ACalls prog 107 [.ag 9] [.dg 9 y0, .sv a 9 r3 q3] N6 (fun x_2 N7 => N6 ≤ N7 → Bel N7 x_2 → ∀ N8, N7 ≤ N8 → ACalls prog 68 [.ag 9] [.dg 9
 x_2] N8 (fun x_3 N9 => N8 ≤ N9 → Bel N9 x_3 → ∀ N10, N9 ≤ N10 → Q x_3 N10)))) : L_impl_places_code_15 Q N0 m8 c8 n62 n63 y0 n1_0 s1_1 s1_2 n1_3 n1_4 a1_5 e1_5 c1_5 n1_6 a1_7 e1_7 c1_7 a1_8 e1_8 c1_8 a2_0 e2_0 c2_0 r3 q3 N :=
  hE (H := H_impl_places_code) (by kernel_rfl) h
theorem l_laws_heldTermS_2 (Q : QT [.int .i64]) (N0 : Nat) (a0 : Option Addr) (e0 : List D) (c0 : Nat) (n1 n5 : Int) (N : Nat) (h :
Br (decide (n5 < (e0.length : Int))) ((0 ≤ n5 ∧ n5 < (e0.length : Int)) ∧ ∃ n : Int, (if 0 = 0 then D.cell (List.getD e0 n5.toNat default) 0 else D.sub (List.getD
 e0 n5.toNat default) 0 0) = D.lit (.int .i64 n) ∧ Br (bne n n1) (∀ N1, N ≤ N1 → Q (-1) N1) ((0 ≤ n5 ∧ n5 < (e0.length : Int)) ∧ ∃ s, (if 0 = 0 then D.cell (List.getD
 e0 n5.toNat default) 1 else D.sub (List.getD e0 n5.toNat default) 1 0) = D.lit (.string s) ∧ ∀ N2, N ≤ N2 → ACalls prog 50 [.str] [.int .i64 (IntKind.i64.wrap
 (n1 + 1))] N2 (fun s_1 N3 => N2 ≤ N3 → Br (!(ByteArray.toList s == ByteArray.toList s_1)) (∀ N4, N3 ≤ N4 → Q (-1) N4) ((0 ≤ n5 ∧ n5 < (e0.length : Int))
 ∧ ∃ s_2, (if 0 = 0 then D.cell (List.getD e0 n5.toNat default) 2 else D.sub (List.getD e0 n5.toNat default) 2 0) = D.lit (.string s_2) ∧ ∀ N5, N3 ≤ N5 → ACalls
 prog 50 [.str] [.int .i64 (IntKind.i64.wrap (IntKind.i64.wrap (n1 + 1) + 1))] N5 (fun s_3 N6 => N5 ≤ N6 → Br (!(ByteArray.toList s_2 == ByteArray.toList s_3))
 (∀ N7, N6 ≤ N7 → Q (-1) N7) ((0 ≤ n5 ∧ n5 < (e0.length : Int)) ∧ ∃ n_1 : Int, (if 0 = 0 then D.cell (List.getD e0 n5.toNat default) 3 else D.sub (List.getD e0
 n5.toNat default) 3 0) = D.lit (.int .i64 n_1) ∧ Br (bne n_1 (IntKind.i64.wrap (IntKind.i64.wrap (IntKind.i64.wrap (n1 + 1) + 1) + 1))) (∀ N8, N6 ≤ N8 → Q (-1)
 N8) ((0 ≤ n5 ∧ n5 < (e0.length : Int)) ∧ ∃ n_2 : Int, (if 0 = 0 then D.cell (if 2 = 0 then D.cell (List.getD e0 n5.toNat default) 4 else D.sub (List.getD e0 n5.toNat
 default) 4 2) 0 else D.sub (if 2 = 0 then D.cell (List.getD e0 n5.toNat default) 4 else D.sub (List.getD e0 n5.toNat default) 4 2) 0 0) = D.lit (.int .i64 n_2) ∧
 Br (bne n_2 (IntKind.i64.wrap (IntKind.i64.wrap (IntKind.i64.wrap (IntKind.i64.wrap (n1 + 1) + 1) + 1) + 1))) (∀ N9, N6 ≤ N9 → Q (-1) N9) ((0 ≤ n5 ∧ n5 < (e0.length
 : Int)) ∧ ∃ a es, ∃ c : Nat, (if 0 = 0 then D.cell (if 2 = 0 then D.cell (List.getD e0 n5.toNat default) 4 else D.sub (List.getD e0 n5.toNat default) 4 2) 1 else
 D.sub (if 2 = 0 then D.cell (List.getD e0 n5.toNat default) 4 else D.sub (List.getD e0 n5.toNat default) 4 2) 1 0) = D.sl a 2 es c ∧ ∀ N10, N6 ≤ N10 → ACalls
 prog 83 [.int .i64] [.sv a 2 es c, .int .i64 (IntKind.i64.wrap (IntKind.i64.wrap (IntKind.i64.wrap (IntKind.i64.wrap (IntKind.i64.wrap (n1 + 1) + 1) + 1) + 1) +
 1))] N10 (fun n_3 N11 => N10 ≤ N11 → Br (decide (n_3 < 0)) (∀ N12, N11 ≤ N12 → Q (-1) N12) ((0 ≤ n5 ∧ n5 < (e0.length : Int)) ∧ ∃ n_4 : Int, (if 0 = 0 then
 D.cell (if 2 = 0 then D.cell (List.getD e0 n5.toNat default) 6 else D.sub (List.getD e0 n5.toNat default) 6 2) 0 else D.sub (if 2 = 0 then D.cell (List.getD e0 n5.toNat
 default) 6 else D.sub (List.getD e0 n5.toNat default) 6 2) 0 0) = D.lit (.int .i64 n_4) ∧ Br (bne n_4 n_3) (∀ N13, N11 ≤ N13 → Q (-1) N13) ((0 ≤ n5 ∧ n5 < (e0.length
 : Int)) ∧ ∃ a_1 es_1, ∃ c_1 : Nat, (if 0 = 0 then D.cell (if 2 = 0 then D.cell (List.getD e0 n5.toNat default) 6 else D.sub (List.getD e0 n5.toNat default) 6 2)
 1 else D.sub (if 2 = 0 then D.cell (List.getD e0 n5.toNat default) 6 else D.sub (List.getD e0 n5.toNat default) 6 2) 1 0) = D.sl a_1 2 es_1 c_1 ∧ ∀ N14, N11 ≤
 N14 → ACalls prog 83 [.int .i64] [.sv a_1 2 es_1 c_1, .int .i64 (IntKind.i64.wrap (n_3 + 1))] N14 (fun n_5 N15 => N14 ≤ N15 → Br (decide (n_5 < 0)) (∀ N16,
 N15 ≤ N16 → Q (-1) N16) ((0 ≤ n5 ∧ n5 < (e0.length : Int)) ∧ ∃ a_2 es_2, ∃ c_2 : Nat, (if 0 = 0 then D.cell (List.getD e0 n5.toNat default) 8 else D.sub (List.getD
 e0 n5.toNat default) 8 0) = D.sl a_2 9 es_2 c_2 ∧ ∀ N17, N15 ≤ N17 → ACalls prog 35 [.int .i64] [.sv a_2 9 es_2 c_2, .int .i64 n_5] N17 (fun n_6 N18 => N17
 ≤ N18 → Br (decide (n_6 < 0)) (∀ N19, N18 ≤ N19 → Q (-1) N19) (L_laws_heldTermS_2 Q N0 a0 e0 c0 n_6 (IntKind.i64.wrap (n5 + 1)) N18))))))))))))))) (∀ N20,
 N ≤ N20 → Q n1 N20)) : L_laws_heldTermS_2 Q N0 a0 e0 c0 n1 n5 N :=
  hE (H := H_laws_heldTermS) (by kernel_rfl) h
theorem l_impl_Term_mapped_3 (Q : QT [.ag 9]) (N0 : Nat) (m5 c5 : Nat) (a10 : Option Addr) (e10 : List D) (c10 : Nat) (n11 n12 : Int) (y0 : D) (n1_0 : Int) (s1_1 s1_2 : ByteArray) (n1_3 n1_4 : Int) (a1_5 : Option Addr) (e1_5 : List D) (c1_5 : Nat) (n1_6 : Int) (a1_7 : Option Addr) (e1_7 : List D) (c1_7 : Nat) (a1_8 : Option Addr) (e1_8 : List D) (c1_8 : Nat) (r2 : List D) (q2 : Nat) (N : Nat) (h :
Br (decide (n12 < n11)) ((0 ≤ n12 ∧ n12 < (e10.length : Int)) ∧ ∀ N1, N ≤ N1 → ACalls prog 104 [.ag 9] [.dg 9 (List.getD e10 n12.toNat default)] N1 (fun x N2
 => N1 ≤ N2 → Bel N2 x → (m5 = r2.length ∧ c5 = q2) ∧ apBound r2 [x] 136 ∧ ∀ (c : Nat), L_impl_Term_mapped_3 Q N0 (r2 ++ [x]).length c a10 e10 c10 n11 (IntKind.i64.wrap
 (n12 + 1)) y0 n1_0 s1_1 s1_2 n1_3 n1_4 a1_5 e1_5 c1_5 n1_6 a1_7 e1_7 c1_7 a1_8 e1_8 c1_8 (r2 ++ [x]) c N2)) ((m5 = r2.length ∧ c5 = q2) ∧ (m5 = r2.length ∧ c5 =
 q2) ∧ ∀ a N3, N ≤ N3 → Fresh N0 N3 a [D.ag r2] → ∀ N4, N3 ≤ N4 → ACalls prog 107 [.ag 9] [.dg 9 y0, .sv a 9 r2 q2] N4 (fun x_1 N5 => N4 ≤ N5 → Bel N5
 x_1 → ∀ N6, N5 ≤ N6 → Q x_1 N6))) : L_impl_Term_mapped_3 Q N0 m5 c5 a10 e10 c10 n11 n12 y0 n1_0 s1_1 s1_2 n1_3 n1_4 a1_5 e1_5 c1_5 n1_6 a1_7 e1_7 c1_7 a1_8 e1_8 c1_8 r2 q2 N :=
  hE (H := H_impl_Term_mapped) (by kernel_rfl) h
theorem w_impl_places_code_1_i0 (N : Nat) (n0 : Int) (a1 : Addr) (x1_ : D) (a2 : Addr) (x2_ : D) (Q : QT [.ag 9]) (h :
∃ a es, ∃ c : Nat, x1_ = D.sl a 3 es c ∧ ∃ a_1 es_1, ∃ c_1 : Nat, (if 0 = 0 then (x2_.cell 8) else D.sub x2_ 8 0) = D.sl a_1 9 es_1 c_1 ∧ (0 ≤ n0 ∧ n0 < (es_1.length
 : Int)) ∧ ∀ N1, N ≤ N1 → ACalls prog 106 [.sl 3] [.sv a 3 es c, .dg 9 x2_, .int .i64 n0] N1 (fun a_2 es_2 c_2 N2 => N1 ≤ N2 → Bel N2 (D.sl a_2 3 es_2 c_2)
 → ∀ N3, N2 ≤ N3 → ACalls prog 47 [.ag 9] [.sv a_2 3 es_2 c_2, .dg 9 (List.getD es_1 n0.toNat default)] N3 (fun x N4 => N3 ≤ N4 → Bel N4 x → ∀ N5, N4 ≤
 N5 → Q x N5))) : ACalls prog 105 [.ag 9] [.int .i64 n0, .pd a1 0 x1_, .pd a2 9 x2_] N Q :=
  eE (H := H_impl_places_code_1) (by kernel_rfl) (by kernel_rfl) h

end Go.Proofs.YtfkmegifjiiclaaGreat
