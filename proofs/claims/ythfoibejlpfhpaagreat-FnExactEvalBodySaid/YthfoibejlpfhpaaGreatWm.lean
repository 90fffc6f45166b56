/- Printed by gen.py: what the functions come to. -/
import Derived.Test.YthfoibejlpfhpaaGreatJh
set_option linter.unusedVariables false
set_option maxRecDepth 100000
namespace Go.Proofs.YthfoibejlpfhpaaGreat
open Go Go.Proofs Go.Proofs.Tryz
def H_laws_szParam : Hint := ⟨[], [], [(4, hs 5 [ec 3 [13]])]⟩
def H_laws_szParamS : Hint := ⟨[hc 5 [0, 1, 5]], [], [(7, hs 7 [ec 5 [21]])]⟩
def H_laws_toParam : Hint := ⟨[], [], [(3, hs 5 [ec 2 [8]])]⟩
def H_laws_toParamS : Hint := ⟨[hc 3 [0, 3, 4]], [], [(5, hs 9 [ec 6 [19]])]⟩
def H_laws_eqParam : Hint := ⟨[], [], [(3, hs 6 [ec 4 [11, 13]])]⟩
def H_laws_eqParamS : Hint := ⟨[hc 4 [0, 1, 5]], [], [(6, [en 0, en 1, en 2, en 3, en 4, en 5, en 6, en 7, ec 8 [20, 24], en 9])]⟩
def L_laws_szParamS_5 (Q : QT [.int .i64]) (N0 : Nat) (a0 : Option Addr) (e0 : List D) (c0 : Nat) (n1 n5 : Int) (N : Nat) : Prop := AT prog 11 [.int .i64] Q N0 .ord (loopAt prog 11 5) ⟨.sv a0 4 e0 c0 :: .int .i64 n1 :: an 3 (.int .i64 n5 :: an 21 []), [], N, none⟩
def L_laws_toParamS_3 (Q : QT [.sl 4]) (N0 : Nat) (a0 : Option Addr) (e0 : List D) (c0 m3 c3 : Nat) (n4 : Int) (r0 : List D) (q0 : Nat) (N : Nat) : Prop := AT prog 14 [.sl 4] Q N0 .ord (loopAt prog 14 3) ⟨.sv a0 4 e0 c0 :: an 2 (.sb 0 4 0 m3 c3 :: .int .i64 n4 :: an 18 []), [.arr 70 4 r0 q0], N, none⟩
def L_laws_eqParamS_4 (Q : QT [.bool]) (N0 : Nat) (a0 : Option Addr) (e0 : List D) (c0 : Nat) (a1 : Option Addr) (e1 : List D) (c1 : Nat) (n5 : Int) (N : Nat) : Prop := AT prog 17 [.bool] Q N0 .ord (loopAt prog 17 4) ⟨.sv a0 4 e0 c0 :: .sv a1 4 e1 c1 :: an 3 (.int .i64 n5 :: an 21 []), [], N, none⟩
theorem w_laws_szParam (N : Nat) (x0 : D) (n1 : Int) (Q : QT [.int .i64]) (h :
Bel N x0 → ∃ s, (x0.cell 0) = D.lit (.string s) ∧ Br (decide (IntKind.i64.wrap (n1 - (s.size : Int)) < 0)) (∀ N1, N ≤ N1 → Q (-1) N1) (∀ N2, N ≤ N2 → ACalls
 prog 43 [.int .i64] [.dg 2 (D.sub x0 1 2), .int .i64 (IntKind.i64.wrap (n1 - (s.size : Int)))] N2 (fun n N3 => N2 ≤ N3 → Br (decide (n < 0)) (∀ N4, N3 ≤ N4
 → Q (-1) N4) (∀ N5, N3 ≤ N5 → Q n N5)))) : ACalls prog 42 [.int .i64] [PV.dg 4 x0, PV.int .i64 n1] N Q :=
  eE (H := H_laws_szParam) (by kernel_rfl) (by kernel_rfl) h
theorem w_laws_szParamS (N : Nat) (a0 : Option Addr) (e0 : List D) (c0 : Nat) (n1 : Int) (Q : QT [.int .i64]) (h :
Bel N (D.sl a0 4 e0 c0) → Br (decide (IntKind.i64.wrap (n1 - (e0.length : Int)) < 0)) (∀ N1, N ≤ N1 → Q (-1) N1) (L_laws_szParamS_5 Q N a0 e0 c0 (IntKind.i64.wrap
 (n1 - (e0.length : Int))) 0 N)) : ACalls prog 11 [.int .i64] [PV.sv a0 4 e0 c0, PV.int .i64 n1] N Q :=
  eE (H := H_laws_szParamS) (by kernel_rfl) (by kernel_rfl) h
theorem w_laws_toParam (N : Nat) (x0 : D) (Q : QT [.ag 4]) (h :
Bel N x0 → ∃ s, (x0.cell 0) = D.lit (.string s) ∧ ∀ N1, N ≤ N1 → ACalls prog 47 [.ag 2] [.dg 2 (D.sub x0 1 2)] N1 (fun x N2 => N1 ≤ N2 → Bel N2 x → ∃ b :
 Bool, (x0.cell 3) = D.lit (.bool b) ∧ ∀ N3, N2 ≤ N3 → Q (D.ag [D.lit (.string s), (x.cell 0), (x.cell 1), D.lit (.bool b)]) N3)) : ACalls prog 46 [.ag 4] [PV.dg 4 x0] N Q :=
  eE (H := H_laws_toParam) (by kernel_rfl) (by kernel_rfl) h
theorem w_laws_toParamS (N : Nat) (a0 : Option Addr) (e0 : List D) (c0 : Nat) (Q : QT [.sl 4]) (h :
Bel N (D.sl a0 4 e0 c0) → (0 ≤ (e0.length : Int) ∧ (e0.length : Int) ≤ (e0.length : Int) ∧ (56 * (e0.length : Int)) ≤ 140737488355328 ∧ (e0.length : Int) ≤ 9223372036854775807)
 ∧ L_laws_toParamS_3 Q N a0 e0 c0 ((e0.length : Int)).toNat ((e0.length : Int)).toNat 0 (List.replicate ((e0.length : Int)).toNat (D.ag [D.lit (.string (bytes [])),
 D.lit (.int .i64 0), D.sl Option.none 2 [] 0, D.lit (.bool false)])) ((e0.length : Int)).toNat N) : ACalls prog 14 [.sl 4] [PV.sv a0 4 e0 c0] N Q :=
  eE (H := H_laws_toParamS) (by kernel_rfl) (by kernel_rfl) h
theorem w_laws_eqParam (N : Nat) (x0 x1 : D) (Q : QT [.bool]) (h :
Bel N x0 → Bel N x1 → ∃ s, (x0.cell 0) = D.lit (.string s) ∧ ∃ s_1, (x1.cell 0) = D.lit (.string s_1) ∧ Br (!(ByteArray.toList s == ByteArray.toList s_1)) (∀ N1,
 N ≤ N1 → Q false N1) (∀ N2, N ≤ N2 → ACalls prog 51 [.bool] [.dg 2 (D.sub x0 1 2), .dg 2 (D.sub x1 1 2)] N2 (fun b N3 => N2 ≤ N3 → Br (!b) (∀ N4, N3 ≤
 N4 → Q false N4) (∃ b_1 : Bool, (x0.cell 3) = D.lit (.bool b_1) ∧ ∃ b_2 : Bool, (x1.cell 3) = D.lit (.bool b_2) ∧ Br (!(b_1 == b_2)) (∀ N5, N3 ≤ N5 → Q false
 N5) (∀ N6, N3 ≤ N6 → Q true N6))))) : ACalls prog 50 [.bool] [PV.dg 4 x0, PV.dg 4 x1] N Q :=
  eE (H := H_laws_eqParam) (by kernel_rfl) (by kernel_rfl) h
theorem w_laws_eqParamS (N : Nat) (a0 : Option Addr) (e0 : List D) (c0 : Nat) (a1 : Option Addr) (e1 : List D) (c1 : Nat) (Q : QT [.bool]) (h :
Bel N (D.sl a0 4 e0 c0) → Bel N (D.sl a1 4 e1 c1) → Br (bne (e0.length : Int) (e1.length : Int)) (∀ N1, N ≤ N1 → Q false N1) (L_laws_eqParamS_4 Q N a0 e0 c0 a1
 e1 c1 0 N)) : ACalls prog 17 [.bool] [PV.sv a0 4 e0 c0, PV.sv a1 4 e1 c1] N Q :=
  eE (H := H_laws_eqParamS) (by kernel_rfl) (by kernel_rfl) h
theorem l_laws_szParamS_5 (Q : QT [.int .i64]) (N0 : Nat) (a0 : Option Addr) (e0 : List D) (c0 : Nat) (n1 n5 : Int) (N : Nat) (h :
Br (decide (n5 < (e0.length : Int))) ((0 ≤ n5 ∧ n5 < (e0.length : Int)) ∧ ∀ N1, N ≤ N1 → ACalls prog 42 [.int .i64] [.dg 4 (List.getD e0 n5.toNat default), .int
 .i64 n1] N1 (fun n N2 => N1 ≤ N2 → Br (decide (n < 0)) (∀ N3, N2 ≤ N3 → Q (-1) N3) (L_laws_szParamS_5 Q N0 a0 e0 c0 n (IntKind.i64.wrap (n5 + 1)) N2)))
 (∀ N4, N ≤ N4 → Q n1 N4)) : L_laws_szParamS_5 Q N0 a0 e0 c0 n1 n5 N :=
  hE (H := H_laws_szParamS) (by kernel_rfl) h
theorem l_laws_toParamS_3 (Q : QT [.sl 4]) (N0 : Nat) (a0 : Option Addr) (e0 : List D) (c0 m3 c3 : Nat) (n4 : Int) (r0 : List D) (q0 : Nat) (N : Nat) (h :
Br (decide (n4 < (e0.length : Int))) ((0 ≤ n4 ∧ n4 < (e0.length : Int)) ∧ ∀ N1, N ≤ N1 → ACalls prog 46 [.ag 4] [.dg 4 (List.getD e0 n4.toNat default)] N1 (fun
 x N2 => N1 ≤ N2 → Bel N2 x → (0 ≤ n4 ∧ n4 < (m3 : Int) ∧ (0 + n4.toNat : Nat) < r0.length) ∧ (0 + n4.toNat : Nat) < r0.length ∧ L_laws_toParamS_3 Q N0 a0 e0
 c0 m3 c3 (IntKind.i64.wrap (n4 + 1)) (List.set r0 (0 + n4.toNat : Nat) x) q0 N2)) ((m3 = r0.length ∧ c3 = q0) ∧ (m3 = r0.length ∧ c3 = q0) ∧ (m3 = r0.length ∧ c3
 = q0) ∧ ∀ a N3, N ≤ N3 → Fresh N0 N3 a [D.ag r0] → ∀ N4, N3 ≤ N4 → Q a r0 q0 N4)) : L_laws_toParamS_3 Q N0 a0 e0 c0 m3 c3 n4 r0 q0 N :=
  hE (H := H_laws_toParamS) (by kernel_rfl) h
theorem l_laws_eqParamS_4 (Q : QT [.bool]) (N0 : Nat) (a0 : Option Addr) (e0 : List D) (c0 : Nat) (a1 : Option Addr) (e1 : List D) (c1 : Nat) (n5 : Int) (N : Nat) (h :
Br (decide (n5 < (e0.length : Int))) ((0 ≤ n5 ∧ n5 < (e0.length : Int)) ∧ (0 ≤ n5 ∧ n5 < (e1.length : Int)) ∧ ∀ N1, N ≤ N1 → ACalls prog 50 [.bool] [.dg 4 (List.getD
 e0 n5.toNat default), .dg 4 (List.getD e1 n5.toNat default)] N1 (fun b N2 => N1 ≤ N2 → Br (!b) (∀ N3, N2 ≤ N3 → Q false N3) (L_laws_eqParamS_4 Q N0 a0 e0
 c0 a1 e1 c1 (IntKind.i64.wrap (n5 + 1)) N2))) (∀ N4, N ≤ N4 → Q true N4)) : L_laws_eqParamS_4 Q N0 a0 e0 c0 a1 e1 c1 n5 N :=
  hE (H := H_laws_eqParamS) (by kernel_rfl) h
end Go.Proofs.YthfoibejlpfhpaaGreat

/- Printed by gen.py: what the functions come to. -/
set_option linter.unusedVariables false
set_option maxRecDepth 100000
namespace Go.Proofs.YthfoibejlpfhpaaGreat
open Go Go.Proofs Go.Proofs.Tryz
def H_impl_AreParams : Hint := ⟨[hc 5 [3, 11, 12, 13]], [], [(7, hs 18 [ec 7 [24]])]⟩
def H_impl_BodyType : Hint := ⟨[hc 6 [3, 4, 7, 26, 27, 28] [(7, 111, 4)]], [], [(1, hs 3 [ec 1 [10]]), (2, hs 12 [ec 5 [16]]), (10, hs 7 [ec 2 [42]])]⟩
def H_impl_DepthOf : Hint := ⟨[hc 3 [3, 7, 8, 9]], [], [(5, hs 5 [ec 2 [14]])]⟩
def H_impl_IndexOf : Hint := ⟨[], [], []⟩
def H_impl_IsValidTerm : Hint := ⟨[], [], [(1, hs 13 [ec 1 [3], ec 4 [6], ec 9 [11]])]⟩
def H_impl_SizeOf : Hint := ⟨[hc 3 [3, 7, 8, 9]], [], [(5, hs 5 [ec 2 [14]])]⟩
def H_impl_paramNames : Hint := ⟨[hc 3 [3, 7, 8, 9] [(3, 9, 0)]], [], []⟩
def H_spec_AreParams : Hint := ⟨[hc 3 [0, 3, 4] [(3, 9, 0)]], [], [(5, hs 26 [ec 13 [24]])]⟩
def H_spec_BodyType : Hint := ⟨[], [], [(1, hs 13 [ec 5 [12], ec 10 [17]]), (3, [en 0, en 2, en 7, eh 1, ec 3 [25], en 4, en 5, en 6, eh 8, en 9])]⟩
def H_spec_DepthOf : Hint := ⟨[hc 3 [1, 3, 4]], [], [(5, hs 9 [ec 6 [17]])]⟩
def H_spec_IndexOf : Hint := ⟨[hc 2 [0, 1, 5]], [], []⟩
def H_spec_IsValidTerm : Hint := ⟨[], [], [(1, hs 13 [ec 1 [3], ec 5 [7], ec 10 [12]])]⟩
def H_spec_l15Ctx : Hint := ⟨[hc 3 [0, 3, 4] [(3, 111, 4)]], [], [(5, [en 0, en 1, en 2, en 3, en 4, en 5, en 6, en 7, en 8, en 9, en 10, en 11, en 12, eh 13, eh 14])]⟩
def H_spec_l15Is : Hint := ⟨[hc 2 [1, 3]], [], [(4, hs 7 [ec 5 [15]])]⟩
def H_spec_l5Left : Hint := ⟨[hc 3 [1, 2, 5]], [], [(5, hs 8 [ec 6 [23]])]⟩
def H_impl_allTermsb : Hint := ⟨[], [], [(1, hs 11 [ec 2 [6]])]⟩
def H_slices_ContainsFunc_Termb : Hint := ⟨[], [], []⟩
def H_slices_IndexFunc_Termb : Hint := ⟨[hc 2 [0, 1, 7, 8]], [], [(4, hs 6 [ec 5 [15]])]⟩
def H_impl_allTerms_1b : Hint := ⟨[], [], [(1, hs 5 [ec 2 [4]])]⟩
def L_impl_AreParams_5 (Q : QT [.bool]) (N0 : Nat) (a3 : Option Addr) (e3 : List D) (c3 : Nat) (a11 : Option Addr) (e11 : List D) (c11 : Nat) (n12 n13 : Int) (N : Nat) : Prop := AT prog 96 [.bool] Q N0 .ord (loopAt prog 96 5) ⟨an 3 (.sv a3 0 e3 c3 :: an 7 (.sv a11 4 e11 c11 :: .int .i64 n12 :: .int .i64 n13 :: an 23 [])), [], N, none⟩
def L_impl_BodyType_6 (Q : QT [.ag 2, .bool]) (N0 : Nat) (m7 c7 : Nat) (a26 : Option Addr) (e26 : List D) (c26 : Nat) (n27 n28 : Int) (y0 : D) (n1_0 : Int) (a1_1 : Option Addr) (e1_1 : List D) (c1_1 : Nat) (r2 : List D) (q2 : Nat) (N : Nat) : Prop := AT prog 56 [.ag 2, .bool] Q N0 .ord (loopAt prog 56 6) ⟨an 3 (.pb 0 0 0 0 :: .pb 1 0 0 0 :: an 2 (.sb 2 4 0 m7 c7 :: an 18 (.sv a26 4 e26 c26 :: .int .i64 n27 :: .int .i64 n28 :: an 17 []))), [.vd y0 9, .var [.int .i64 n1_0, .sv a1_1 2 e1_1 c1_1], .arr 111 4 r2 q2], N, none⟩
def L_impl_DepthOf_3 (Q : QT [.int .i64]) (N0 : Nat) (n3 : Int) (a7 : Option Addr) (e7 : List D) (c7 : Nat) (n8 n9 : Int) (N : Nat) : Prop := AT prog 143 [.int .i64] Q N0 .ord (loopAt prog 143 3) ⟨an 3 (.int .i64 n3 :: an 3 (.sv a7 9 e7 c7 :: .int .i64 n8 :: .int .i64 n9 :: an 10 [])), [], N, none⟩
def L_impl_SizeOf_3 (Q : QT [.int .i64]) (N0 : Nat) (n3 : Int) (a7 : Option Addr) (e7 : List D) (c7 : Nat) (n8 n9 : Int) (N : Nat) : Prop := AT prog 80 [.int .i64] Q N0 .ord (loopAt prog 80 3) ⟨an 3 (.int .i64 n3 :: an 3 (.sv a7 9 e7 c7 :: .int .i64 n8 :: .int .i64 n9 :: an 9 [])), [], N, none⟩
def L_impl_paramNames_3 (Q : QT [.sl 0]) (N0 : Nat) (m3 c3 : Nat) (a7 : Option Addr) (e7 : List D) (c7 : Nat) (n8 n9 : Int) (r0 : List D) (q0 : Nat) (N : Nat) : Prop := AT prog 138 [.sl 0] Q N0 .ord (loopAt prog 138 3) ⟨an 3 (.sb 0 0 0 m3 c3 :: an 3 (.sv a7 4 e7 c7 :: .int .i64 n8 :: .int .i64 n9 :: an 10 [])), [.arr 9 0 r0 q0], N, none⟩
def L_spec_AreParams_3 (Q : QT [.bool]) (N0 : Nat) (a0 : Option Addr) (e0 : List D) (c0 m3 c3 : Nat) (n4 : Int) (r0 : List D) (q0 : Nat) (N : Nat) : Prop := AT prog 87 [.bool] Q N0 .ord (loopAt prog 87 3) ⟨.sv a0 4 e0 c0 :: an 2 (.sb 0 0 0 m3 c3 :: .int .i64 n4 :: an 44 []), [.arr 9 0 r0 q0], N, none⟩
def L_spec_DepthOf_3 (Q : QT [.int .i64]) (N0 : Nat) (n3 n4 : Int) (y0 : D) (N : Nat) : Prop := AT prog 132 [.int .i64] Q N0 .ord (loopAt prog 132 3) ⟨an 1 (.pb 0 0 0 0 :: an 1 (.int .i64 n3 :: .int .i64 n4 :: an 17 [])), [.vd y0 9], N, none⟩
def L_spec_IndexOf_2 (Q : QT [.int .i64]) (N0 : Nat) (a0 : Option Addr) (e0 : List D) (c0 : Nat) (s1 : ByteArray) (n5 : Int) (N : Nat) : Prop := AT prog 130 [.int .i64] Q N0 .ord (loopAt prog 130 2) ⟨.sv a0 0 e0 c0 :: .str s1 :: an 3 (.int .i64 n5 :: an 13 []), [], N, none⟩
def L_spec_l15Ctx_3 (Q : QT [.sl 4]) (N0 : Nat) (a0 : Option Addr) (e0 : List D) (c0 m3 c3 : Nat) (n4 : Int) (r0 : List D) (q0 : Nat) (N : Nat) : Prop := AT prog 82 [.sl 4] Q N0 .ord (loopAt prog 82 3) ⟨.sv a0 4 e0 c0 :: an 2 (.sb 0 4 0 m3 c3 :: .int .i64 n4 :: an 22 []), [.arr 111 4 r0 q0], N, none⟩
def L_spec_l15Is_2 (Q : QT [.bool]) (N0 : Nat) (n3 : Int) (y0 : D) (N : Nat) : Prop := AT prog 89 [.bool] Q N0 .ord (loopAt prog 89 2) ⟨an 1 (.pb 0 0 0 0 :: an 1 (.int .i64 n3 :: an 22 [])), [.vd y0 9], N, none⟩
def L_spec_l5Left_3 (Q : QT [.int .i64]) (N0 : Nat) (n1 n5 : Int) (y0 : D) (N : Nat) : Prop := AT prog 131 [.int .i64] Q N0 .ord (loopAt prog 131 3) ⟨an 1 (.int .i64 n1 :: .pb 0 0 0 0 :: an 2 (.int .i64 n5 :: an 21 [])), [.vd y0 9], N, none⟩
def L_slices_IndexFunc_Term_2b (Q : QT [.int .i64]) (N0 : Nat) (a0 : Option Addr) (e0 : List D) (c0 : Nat) (a1_0 : Addr) (n7 n8 : Int) (N : Nat) : Prop := AT prog 171 [.int .i64] Q N0 .ord (loopAt prog 171 2) ⟨.sv a0 9 e0 c0 :: .fn 137 [.pd a1_0 0 (.fn 94 [])] :: an 5 (.int .i64 n7 :: .int .i64 n8 :: an 10 []), [], N, none⟩
theorem w_impl_AreParams (N : Nat) (a0 : Option Addr) (e0 : List D) (c0 : Nat) (Q : QT [.bool]) (h :
Bel N (D.sl a0 4 e0 c0) → Br (decide ((e0.length : Int) > 5)) (∀ N1, N ≤ N1 → Q false N1) (∀ N2, N ≤ N2 → ACalls prog 138 [.sl 0] [.sv a0 4 e0 c0] N2 (fun
 a es c N3 => N2 ≤ N3 → Bel N3 (D.sl a 0 es c) → L_impl_AreParams_5 Q N a es c a0 e0 c0 (e0.length : Int) 0 N3))) : ACalls prog 96 [.bool] [PV.sv a0 4 e0 c0] N Q :=
  eE (H := H_impl_AreParams) (by kernel_rfl) (by kernel_rfl) h
theorem w_impl_BodyType (N : Nat) (a0 : Option Addr) (e0 : List D) (c0 : Nat) (x1 : D) (Q : QT [.ag 2, .bool]) (h :
Bel N (D.sl a0 4 e0 c0) → Bel N x1 → ∀ N1, N ≤ N1 → ACalls prog 93 [.bool] [.dg 9 x1, .fn 94 []] N1 (fun b N2 => N1 ≤ N2 → ∀ N3, N2 ≤ N3 → ACalls prog 96
 [.bool] [.sv a0 4 e0 c0] N3 (fun b_1 N4 => N3 ≤ N4 → Br (!b_1) (∀ N5, N4 ≤ N5 → Q (D.ag [D.lit (.int .i64 0), D.sl Option.none 2 [] 0]) false N5) (∀ N6,
 N4 ≤ N6 → ACalls prog 97 [.bool] [.dg 9 x1] N6 (fun b_2 N7 => N6 ≤ N7 → Br (!b_2) (∀ N8, N7 ≤ N8 → Q (D.ag [D.lit (.int .i64 0), D.sl Option.none 2 [] 0])
 false N8) (Br (!b) (∀ N9, N7 ≤ N9 → Q (D.ag [D.lit (.int .i64 0), D.sl Option.none 2 [] 0]) false N9) (L_impl_BodyType_6 Q N 0 0 a0 e0 c0 (e0.length : Int)
 0 x1 0 Option.none [] 0 [] 0 N7))))))) : ACalls prog 56 [.ag 2, .bool] [PV.sv a0 4 e0 c0, PV.dg 9 x1] N Q :=
  eE (H := H_impl_BodyType) (by kernel_rfl) (by kernel_rfl) h
theorem w_impl_DepthOf (N : Nat) (x0 : D) (Q : QT [.int .i64]) (h :
Bel N x0 → ∃ a es, ∃ c : Nat, (x0.cell 8) = D.sl a 9 es c ∧ L_impl_DepthOf_3 Q N 0 a es c (es.length : Int) 0 N) : ACalls prog 143 [.int .i64] [PV.dg 9 x0] N Q :=
  eE (H := H_impl_DepthOf) (by kernel_rfl) (by kernel_rfl) h
theorem w_impl_IndexOf (N : Nat) (a0 : Option Addr) (e0 : List D) (c0 : Nat) (s1 : ByteArray) (Q : QT [.int .i64]) (h :
Bel N (D.sl a0 0 e0 c0) → ∀ N1, N ≤ N1 → ACalls prog 173 [.int .i64] [.sv a0 0 e0 c0, .str s1] N1 (fun n N2 => N1 ≤ N2 → ∀ N3, N2 ≤ N3 → Q n N3)) : ACalls prog 141 [.int .i64] [PV.sv a0 0 e0 c0, PV.str s1] N Q :=
  eE (H := H_impl_IndexOf) (by kernel_rfl) (by kernel_rfl) h
theorem w_impl_IsValidTerm (N : Nat) (x0 : D) (Q : QT [.bool]) (h :
Bel N x0 → ∀ N1, N ≤ N1 → ACalls prog 142 [.bool] [.dg 9 x0] N1 (fun b N2 => N1 ≤ N2 → Br b (∀ N3, N2 ≤ N3 → ACalls prog 80 [.int .i64] [.dg 9 x0] N3 (fun
 n N4 => N3 ≤ N4 → Br (decide (n ≤ 80)) (∀ N5, N4 ≤ N5 → ACalls prog 143 [.int .i64] [.dg 9 x0] N5 (fun n_1 N6 => N5 ≤ N6 → ∀ N7, N6 ≤ N7 → Q (decide
 (n_1 ≤ 20)) N7)) (∀ N8, N4 ≤ N8 → Q false N8))) (∀ N9, N2 ≤ N9 → Q false N9))) : ACalls prog 97 [.bool] [PV.dg 9 x0] N Q :=
  eE (H := H_impl_IsValidTerm) (by kernel_rfl) (by kernel_rfl) h
theorem w_impl_SizeOf (N : Nat) (x0 : D) (Q : QT [.int .i64]) (h :
Bel N x0 → ∃ a es, ∃ c : Nat, (x0.cell 8) = D.sl a 9 es c ∧ L_impl_SizeOf_3 Q N 1 a es c (es.length : Int) 0 N) : ACalls prog 80 [.int .i64] [PV.dg 9 x0] N Q :=
  eE (H := H_impl_SizeOf) (by kernel_rfl) (by kernel_rfl) h
theorem w_impl_paramNames (N : Nat) (a0 : Option Addr) (e0 : List D) (c0 : Nat) (Q : QT [.sl 0]) (h :
Bel N (D.sl a0 4 e0 c0) → L_impl_paramNames_3 Q N 0 0 a0 e0 c0 (e0.length : Int) 0 [] 0 N) : ACalls prog 138 [.sl 0] [PV.sv a0 4 e0 c0] N Q :=
  eE (H := H_impl_paramNames) (by kernel_rfl) (by kernel_rfl) h
theorem w_spec_AreParams (N : Nat) (a0 : Option Addr) (e0 : List D) (c0 : Nat) (Q : QT [.bool]) (h :
Bel N (D.sl a0 4 e0 c0) → L_spec_AreParams_3 Q N a0 e0 c0 0 0 0 [] 0 N) : ACalls prog 87 [.bool] [PV.sv a0 4 e0 c0] N Q :=
  eE (H := H_spec_AreParams) (by kernel_rfl) (by kernel_rfl) h
theorem w_spec_BodyType (N : Nat) (a0 : Option Addr) (e0 : List D) (c0 : Nat) (x1 : D) (Q : QT [.ag 2, .bool]) (h :
Bel N (D.sl a0 4 e0 c0) → Bel N x1 → ∀ N1, N ≤ N1 → ACalls prog 87 [.bool] [.sv a0 4 e0 c0] N1 (fun b N2 => N1 ≤ N2 → Br (!b) (∀ N3, N2 ≤ N3 → Q (D.ag [D.lit
 (.int .i64 0), D.sl Option.none 2 [] 0]) false N3) (∀ N4, N2 ≤ N4 → ACalls prog 88 [.bool] [.dg 9 x1] N4 (fun b_1 N5 => N4 ≤ N5 → Br (!b_1) (∀ N6, N5 ≤
 N6 → Q (D.ag [D.lit (.int .i64 0), D.sl Option.none 2 [] 0]) false N6) (∀ N7, N5 ≤ N7 → ACalls prog 89 [.bool] [.dg 9 x1] N7 (fun b_2 N8 => N7 ≤ N8 → Br
 (!b_2) (∀ N9, N8 ≤ N9 → Q (D.ag [D.lit (.int .i64 0), D.sl Option.none 2 [] 0]) false N9) (∀ N10, N8 ≤ N10 → ACalls prog 82 [.sl 4] [.sv a0 4 e0 c0] N10
 (fun a es c N11 => N10 ≤ N11 → Bel N11 (D.sl a 4 es c) → ∀ N12, N11 ≤ N12 → ACalls prog 90 [.ag 2, .bool] [.sv a 4 es c, .dg 9 x1, .int .i64 0] N12 (fun
 x b_3 N13 => N12 ≤ N13 → Bel N13 x → ∀ N14, N13 ≤ N14 → Q x b_3 N14))))))))) : ACalls prog 53 [.ag 2, .bool] [PV.sv a0 4 e0 c0, PV.dg 9 x1] N Q :=
  eE (H := H_spec_BodyType) (by kernel_rfl) (by kernel_rfl) h
theorem w_spec_DepthOf (N : Nat) (x0 : D) (Q : QT [.int .i64]) (h :
Bel N x0 → L_spec_DepthOf_3 Q N 0 0 x0 N) : ACalls prog 132 [.int .i64] [PV.dg 9 x0] N Q :=
  eE (H := H_spec_DepthOf) (by kernel_rfl) (by kernel_rfl) h
theorem w_spec_IndexOf (N : Nat) (a0 : Option Addr) (e0 : List D) (c0 : Nat) (s1 : ByteArray) (Q : QT [.int .i64]) (h :
Bel N (D.sl a0 0 e0 c0) → L_spec_IndexOf_2 Q N a0 e0 c0 s1 0 N) : ACalls prog 130 [.int .i64] [PV.sv a0 0 e0 c0, PV.str s1] N Q :=
  eE (H := H_spec_IndexOf) (by kernel_rfl) (by kernel_rfl) h
theorem w_spec_IsValidTerm (N : Nat) (x0 : D) (Q : QT [.bool]) (h :
Bel N x0 → ∀ N1, N ≤ N1 → ACalls prog 131 [.int .i64] [.dg 9 x0, .int .i64 80] N1 (fun n N2 => N1 ≤ N2 → Br (decide (n ≥ 0)) (∀ N3, N2 ≤ N3 → ACalls prog
 132 [.int .i64] [.dg 9 x0] N3 (fun n_1 N4 => N3 ≤ N4 → Br (decide (n_1 ≤ 20)) (∀ N5, N4 ≤ N5 → ACalls prog 133 [.bool] [.dg 9 x0] N5 (fun b N6 => N5 ≤
 N6 → ∀ N7, N6 ≤ N7 → Q b N7)) (∀ N8, N4 ≤ N8 → Q false N8))) (∀ N9, N2 ≤ N9 → Q false N9))) : ACalls prog 88 [.bool] [PV.dg 9 x0] N Q :=
  eE (H := H_spec_IsValidTerm) (by kernel_rfl) (by kernel_rfl) h
theorem w_spec_l15Ctx (N : Nat) (a0 : Option Addr) (e0 : List D) (c0 : Nat) (Q : QT [.sl 4]) (h :
Bel N (D.sl a0 4 e0 c0) → L_spec_l15Ctx_3 Q N a0 e0 c0 0 0 0 [] 0 N) : ACalls prog 82 [.sl 4] [PV.sv a0 4 e0 c0] N Q :=
  eE (H := H_spec_l15Ctx) (by kernel_rfl) (by kernel_rfl) h
theorem w_spec_l15Is (N : Nat) (x0 : D) (Q : QT [.bool]) (h :
Bel N x0 → L_spec_l15Is_2 Q N 0 x0 N) : ACalls prog 89 [.bool] [PV.dg 9 x0] N Q :=
  eE (H := H_spec_l15Is) (by kernel_rfl) (by kernel_rfl) h
theorem w_spec_l5Left (N : Nat) (x0 : D) (n1 : Int) (Q : QT [.int .i64]) (h :
Bel N x0 → L_spec_l5Left_3 Q N (IntKind.i64.wrap (n1 - 1)) 0 x0 N) : ACalls prog 131 [.int .i64] [PV.dg 9 x0, PV.int .i64 n1] N Q :=
  eE (H := H_spec_l5Left) (by kernel_rfl) (by kernel_rfl) h
theorem l_impl_AreParams_5 (Q : QT [.bool]) (N0 : Nat) (a3 : Option Addr) (e3 : List D) (c3 : Nat) (a11 : Option Addr) (e11 : List D) (c11 : Nat) (n12 n13 : Int) (N : Nat) (h :
Br (decide (n13 < n12)) ((0 ≤ n13 ∧ n13 < (e11.length : Int)) ∧ ∃ s, D.cell (List.getD e11 n13.toNat default) 0 = D.lit (.string s) ∧ ∀ N1, N ≤ N1 → ACalls prog
 139 [.bool] [.str s] N1 (fun b N2 => N1 ≤ N2 → Br (!b) (∀ N3, N2 ≤ N3 → Q false N3) (∀ N4, N2 ≤ N4 → ACalls prog 140 [.bool] [.dg 2 (D.sub (List.getD
 e11 n13.toNat default) 1 2)] N4 (fun b_1 N5 => N4 ≤ N5 → Br (!b_1) (∀ N6, N5 ≤ N6 → Q false N6) (∃ s_1, D.cell (List.getD e11 n13.toNat default) 0 = D.lit
 (.string s_1) ∧ ∀ N7, N5 ≤ N7 → ACalls prog 141 [.int .i64] [.sv a3 0 e3 c3, .str s_1] N7 (fun n N8 => N7 ≤ N8 → Br (bne n n13) (∀ N9, N8 ≤ N9 → Q false
 N9) (L_impl_AreParams_5 Q N0 a3 e3 c3 a11 e11 c11 n12 (IntKind.i64.wrap (n13 + 1)) N8))))))) (∀ N10, N ≤ N10 → Q true N10)) : L_impl_AreParams_5 Q N0 a3 e3 c3 a11 e11 c11 n12 n13 N :=
  hE (H := H_impl_AreParams) (by kernel_rfl) h
theorem w_impl_allTerms_i0b (N : Nat) (x0 : D) (Q : QT [.bool]) (h :
Bel N x0 → ∀ N1, N ≤ N1 → ACalls prog 94 [.bool] [.dg 9 x0] N1 (fun b N2 => N1 ≤ N2 → Br b (∃ a es, ∃ c : Nat, (x0.cell 8) = D.sl a 9 es c ∧ ∀ ad, ApA (Option.some
 ad) [D.fn (OfNat.ofNat 94) []] → Off [Option.some ad] (D.sl a 9 es c) → ∀ N3, N2 ≤ N3 → BelA N3 [Option.some ad] → ACalls prog 136 [.bool] [.sv a 9 es c, .fn
 137 [.pd ad 0 (.fn 94 [])]] N3 (fun b_1 N4 => N3 ≤ N4 → ∀ N5, N4 ≤ N5 → Q (!b_1) N5)) (∀ N6, N2 ≤ N6 → Q false N6))) : ACalls prog 93 [.bool] [.dg 9 x0, .fn 94 []] N Q :=
  eE (H := H_impl_allTermsb) (by kernel_rfl) (by kernel_rfl) h
theorem l_impl_BodyType_6 (Q : QT [.ag 2, .bool]) (N0 : Nat) (m7 c7 : Nat) (a26 : Option Addr) (e26 : List D) (c26 : Nat) (n27 n28 : Int) (y0 : D) (n1_0 : Int) (a1_1 : Option Addr) (e1_1 : List D) (c1_1 : Nat) (r2 : List D) (q2 : Nat) (N : Nat) (h :
Br (decide (n28 < n27)) ((0 ≤ n28 ∧ n28 < (e26.length : Int)) ∧ ∃ s, D.cell (List.getD e26 n28.toNat default) 0 = D.lit (.string s) ∧ (m7 = r2.length ∧ c7 = q2)
 ∧ apBound r2 [D.ag [D.lit (.string s), D.cell (D.sub (List.getD e26 n28.toNat default) 1 2) 0, D.cell (D.sub (List.getD e26 n28.toNat default) 1 2) 1, D.lit (.int
 .i64 0)]] 56 ∧ ∀ (c : Nat), L_impl_BodyType_6 Q N0 (r2 ++ [D.ag [D.lit (.string s), D.cell (D.sub (List.getD e26 n28.toNat default) 1 2) 0, D.cell (D.sub (List.getD
 e26 n28.toNat default) 1 2) 1, D.lit (.int .i64 0)]]).length c a26 e26 c26 n27 (IntKind.i64.wrap (n28 + 1)) y0 n1_0 a1_1 e1_1 c1_1 (r2 ++ [D.ag [D.lit (.string s),
 D.cell (D.sub (List.getD e26 n28.toNat default) 1 2) 0, D.cell (D.sub (List.getD e26 n28.toNat default) 1 2) 1, D.lit (.int .i64 0)]]) c N) ((m7 = r2.length ∧ c7
 = q2) ∧ ∀ a, ApA a r2 → Off [a] y0 → ∀ N1, N ≤ N1 → BelA N1 [a] → ACalls prog 98 [.ag 2, .bool] [.sv a 4 r2 c7, .dg 9 y0, .int .i64 0] N1 (fun x b N2 => N1
 ≤ N2 → Off [a] x ∧ (Bel N2 x → ∀ N3, N2 ≤ N3 → Q x b N3)))) : L_impl_BodyType_6 Q N0 m7 c7 a26 e26 c26 n27 n28 y0 n1_0 a1_1 e1_1 c1_1 r2 q2 N :=
  hE (H := H_impl_BodyType) (by kernel_rfl) h
theorem l_impl_DepthOf_3 (Q : QT [.int .i64]) (N0 : Nat) (n3 : Int) (a7 : Option Addr) (e7 : List D) (c7 : Nat) (n8 n9 : Int) (N : Nat) (h :
Br (decide (n9 < n8)) ((0 ≤ n9 ∧ n9 < (e7.length : Int)) ∧ ∀ N1, N ≤ N1 → ACalls prog 143 [.int .i64] [.dg 9 (List.getD e7 n9.toNat default)] N1 (fun n N2 =>
 N1 ≤ N2 → L_impl_DepthOf_3 Q N0 (if n > n3 then n else n3) a7 e7 c7 n8 (IntKind.i64.wrap (n9 + 1)) N2)) (∀ N3, N ≤ N3 → Q (IntKind.i64.wrap (n3 + 1)) N3)) : L_impl_DepthOf_3 Q N0 n3 a7 e7 c7 n8 n9 N :=
  hE (H := H_impl_DepthOf) (by kernel_rfl) h
theorem l_impl_SizeOf_3 (Q : QT [.int .i64]) (N0 : Nat) (n3 : Int) (a7 : Option Addr) (e7 : List D) (c7 : Nat) (n8 n9 : Int) (N : Nat) (h :
Br (decide (n9 < n8)) ((0 ≤ n9 ∧ n9 < (e7.length : Int)) ∧ ∀ N1, N ≤ N1 → ACalls prog 80 [.int .i64] [.dg 9 (List.getD e7 n9.toNat default)] N1 (fun n N2 =>
 N1 ≤ N2 → L_impl_SizeOf_3 Q N0 (IntKind.i64.wrap (n3 + n)) a7 e7 c7 n8 (IntKind.i64.wrap (n9 + 1)) N2)) (∀ N3, N ≤ N3 → Q n3 N3)) : L_impl_SizeOf_3 Q N0 n3 a7 e7 c7 n8 n9 N :=
  hE (H := H_impl_SizeOf) (by kernel_rfl) h
theorem l_impl_paramNames_3 (Q : QT [.sl 0]) (N0 : Nat) (m3 c3 : Nat) (a7 : Option Addr) (e7 : List D) (c7 : Nat) (n8 n9 : Int) (r0 : List D) (q0 : Nat) (N : Nat) (h :
Br (decide (n9 < n8)) ((0 ≤ n9 ∧ n9 < (e7.length : Int)) ∧ ∃ s, D.cell (List.getD e7 n9.toNat default) 0 = D.lit (.string s) ∧ (m3 = r0.length ∧ c3 = q0) ∧ apBound
 r0 [D.lit (.string s)] 16 ∧ ∀ (c : Nat), L_impl_paramNames_3 Q N0 (r0 ++ [D.lit (.string s)]).length c a7 e7 c7 n8 (IntKind.i64.wrap (n9 + 1)) (r0 ++ [D.lit (.string
 s)]) c N) ((m3 = r0.length ∧ c3 = q0) ∧ (m3 = r0.length ∧ c3 = q0) ∧ (m3 = r0.length ∧ c3 = q0) ∧ ∀ a N1, N ≤ N1 → Fresh N0 N1 a [D.ag r0] → ∀ N2, N1 ≤ N2
 → Q a r0 q0 N2)) : L_impl_paramNames_3 Q N0 m3 c3 a7 e7 c7 n8 n9 r0 q0 N :=
  hE (H := H_impl_paramNames) (by kernel_rfl) h
theorem l_spec_AreParams_3 (Q : QT [.bool]) (N0 : Nat) (a0 : Option Addr) (e0 : List D) (c0 m3 c3 : Nat) (n4 : Int) (r0 : List D) (q0 : Nat) (N : Nat) (h :
Br (decide (n4 < (e0.length : Int))) ((0 ≤ n4 ∧ n4 < (e0.length : Int)) ∧ ∃ s, (if 0 = 0 then D.cell (List.getD e0 n4.toNat default) 0 else D.sub (List.getD e0 n4.toNat
 default) 0 0) = D.lit (.string s) ∧ ∀ N1, N ≤ N1 → ACalls prog 128 [.bool] [.str s] N1 (fun b N2 => N1 ≤ N2 → Br (!b) (∀ N3, N2 ≤ N3 → Q false N3) ((0
 ≤ n4 ∧ n4 < (e0.length : Int)) ∧ ∀ N4, N2 ≤ N4 → ACalls prog 129 [.bool] [.dg 2 (if 2 = 0 then D.cell (List.getD e0 n4.toNat default) 1 else D.sub (List.getD
 e0 n4.toNat default) 1 2)] N4 (fun b_1 N5 => N4 ≤ N5 → Br (!b_1) (∀ N6, N5 ≤ N6 → Q false N6) ((0 ≤ n4 ∧ n4 < (e0.length : Int)) ∧ ∃ s_1, (if 0 = 0 then
 D.cell (List.getD e0 n4.toNat default) 0 else D.sub (List.getD e0 n4.toNat default) 0 0) = D.lit (.string s_1) ∧ (m3 = r0.length ∧ c3 = q0) ∧ ∀ a, ApA a r0 → ∀ N7,
 N5 ≤ N7 → BelA N7 [a] → ACalls prog 130 [.int .i64] [.sv a 0 r0 c3, .str s_1] N7 (fun n N8 => N7 ≤ N8 → Br (decide (n ≥ 0)) (∀ N9, N8 ≤ N9 → Q false N9)
 ((0 ≤ n4 ∧ n4 < (e0.length : Int)) ∧ ∃ s_2, (if 0 = 0 then D.cell (List.getD e0 n4.toNat default) 0 else D.sub (List.getD e0 n4.toNat default) 0 0) = D.lit (.string
 s_2) ∧ (m3 = r0.length ∧ c3 = q0) ∧ apBound r0 [D.lit (.string s_2)] 16 ∧ ∀ (c : Nat), L_spec_AreParams_3 Q N0 a0 e0 c0 (r0 ++ [D.lit (.string s_2)]).length c (IntKind.i64.wrap
 (n4 + 1)) (r0 ++ [D.lit (.string s_2)]) c N8))))))) (∀ N10, N ≤ N10 → Q (decide ((m3 : Int) ≤ 5)) N10)) : L_spec_AreParams_3 Q N0 a0 e0 c0 m3 c3 n4 r0 q0 N :=
  hE (H := H_spec_AreParams) (by kernel_rfl) h
theorem l_spec_DepthOf_3 (Q : QT [.int .i64]) (N0 : Nat) (n3 n4 : Int) (y0 : D) (N : Nat) (h :
∃ a es, ∃ c : Nat, (y0.cell 8) = D.sl a 9 es c ∧ Br (decide (n4 < (es.length : Int))) (∃ a_1 es_1, ∃ c_1 : Nat, (y0.cell 8) = D.sl a_1 9 es_1 c_1 ∧ (0 ≤ n4 ∧ n4
 < (es_1.length : Int)) ∧ ∀ N1, N ≤ N1 → ACalls prog 132 [.int .i64] [.dg 9 (List.getD es_1 n4.toNat default)] N1 (fun n N2 => N1 ≤ N2 → ∀ N3, N2 ≤ N3 →
 ACalls prog 159 [.int .i64] [.int .i64 n3, .int .i64 n] N3 (fun n_1 N4 => N3 ≤ N4 → L_spec_DepthOf_3 Q N0 n_1 (IntKind.i64.wrap (n4 + 1)) y0 N4))) (∀ N5, N
 ≤ N5 → Q (IntKind.i64.wrap (n3 + 1)) N5)) : L_spec_DepthOf_3 Q N0 n3 n4 y0 N :=
  hE (H := H_spec_DepthOf) (by kernel_rfl) h
theorem l_spec_IndexOf_2 (Q : QT [.int .i64]) (N0 : Nat) (a0 : Option Addr) (e0 : List D) (c0 : Nat) (s1 : ByteArray) (n5 : Int) (N : Nat) (h :
Br (decide (n5 < (e0.length : Int))) ((0 ≤ n5 ∧ n5 < (e0.length : Int)) ∧ ∃ s, List.getD e0 n5.toNat default = D.lit (.string s) ∧ Br (ByteArray.toList s == ByteArray.toList
 s1) (∀ N1, N ≤ N1 → Q n5 N1) (L_spec_IndexOf_2 Q N0 a0 e0 c0 s1 (IntKind.i64.wrap (n5 + 1)) N)) (∀ N2, N ≤ N2 → Q (-1) N2)) : L_spec_IndexOf_2 Q N0 a0 e0 c0 s1 n5 N :=
  hE (H := H_spec_IndexOf) (by kernel_rfl) h
theorem l_spec_l15Ctx_3 (Q : QT [.sl 4]) (N0 : Nat) (a0 : Option Addr) (e0 : List D) (c0 m3 c3 : Nat) (n4 : Int) (r0 : List D) (q0 : Nat) (N : Nat) (h :
Br (decide (n4 < (e0.length : Int))) ((0 ≤ n4 ∧ n4 < (e0.length : Int)) ∧ ∃ s, (if 0 = 0 then D.cell (List.getD e0 n4.toNat default) 0 else D.sub (List.getD e0 n4.toNat
 default) 0 0) = D.lit (.string s) ∧ (0 ≤ n4 ∧ n4 < (e0.length : Int)) ∧ (m3 = r0.length ∧ c3 = q0) ∧ apBound r0 [D.ag [D.lit (.string s), D.cell (if 2 = 0 then D.cell
 (List.getD e0 n4.toNat default) 1 else D.sub (List.getD e0 n4.toNat default) 1 2) 0, D.cell (if 2 = 0 then D.cell (List.getD e0 n4.toNat default) 1 else D.sub (List.getD
 e0 n4.toNat default) 1 2) 1, D.lit (.int .i64 0)]] 56 ∧ ∀ (c : Nat), L_spec_l15Ctx_3 Q N0 a0 e0 c0 (r0 ++ [D.ag [D.lit (.string s), D.cell (if 2 = 0 then D.cell
 (List.getD e0 n4.toNat default) 1 else D.sub (List.getD e0 n4.toNat default) 1 2) 0, D.cell (if 2 = 0 then D.cell (List.getD e0 n4.toNat default) 1 else D.sub (List.getD
 e0 n4.toNat default) 1 2) 1, D.lit (.int .i64 0)]]).length c (IntKind.i64.wrap (n4 + 1)) (r0 ++ [D.ag [D.lit (.string s), D.cell (if 2 = 0 then D.cell (List.getD
 e0 n4.toNat default) 1 else D.sub (List.getD e0 n4.toNat default) 1 2) 0, D.cell (if 2 = 0 then D.cell (List.getD e0 n4.toNat default) 1 else D.sub (List.getD e0
 n4.toNat default) 1 2) 1, D.lit (.int .i64 0)]]) c N) ((m3 = r0.length ∧ c3 = q0) ∧ (m3 = r0.length ∧ c3 = q0) ∧ (m3 = r0.length ∧ c3 = q0) ∧ ∀ a N1, N ≤ N1 →
 Fresh N0 N1 a [D.ag r0] → ∀ N2, N1 ≤ N2 → Q a r0 q0 N2)) : L_spec_l15Ctx_3 Q N0 a0 e0 c0 m3 c3 n4 r0 q0 N :=
  hE (H := H_spec_l15Ctx) (by kernel_rfl) h
theorem l_spec_l15Is_2 (Q : QT [.bool]) (N0 : Nat) (n3 : Int) (y0 : D) (N : Nat) (h :
∃ a es, ∃ c : Nat, (y0.cell 8) = D.sl a 9 es c ∧ Br (decide (n3 < (es.length : Int))) (∃ a_1 es_1, ∃ c_1 : Nat, (y0.cell 8) = D.sl a_1 9 es_1 c_1 ∧ (0 ≤ n3 ∧ n3
 < (es_1.length : Int)) ∧ ∀ N1, N ≤ N1 → ACalls prog 89 [.bool] [.dg 9 (List.getD es_1 n3.toNat default)] N1 (fun b N2 => N1 ≤ N2 → Br (!b) (∀ N3, N2 ≤ N3
 → Q false N3) (L_spec_l15Is_2 Q N0 (IntKind.i64.wrap (n3 + 1)) y0 N2))) (∃ n : Int, (y0.cell 0) = D.lit (.int .i64 n) ∧ ∀ N4, N ≤ N4 → ACalls prog 101 [.bool]
 [.int .i64 n, .int .i64 1, .int .i64 5] N4 (fun b_1 N5 => N4 ≤ N5 → Br b_1 (∀ N6, N5 ≤ N6 → Q true N6) (∃ n_1 : Int, (y0.cell 0) = D.lit (.int .i64 n_1)
 ∧ ∀ N7, N5 ≤ N7 → Q (n_1 == 8) N7)))) : L_spec_l15Is_2 Q N0 n3 y0 N :=
  hE (H := H_spec_l15Is) (by kernel_rfl) h
theorem l_spec_l5Left_3 (Q : QT [.int .i64]) (N0 : Nat) (n1 n5 : Int) (y0 : D) (N : Nat) (h :
∃ a es, ∃ c : Nat, (y0.cell 8) = D.sl a 9 es c ∧ Br (decide (n5 < (es.length : Int))) (Br (decide (n1 ≥ 0)) (∃ a_1 es_1, ∃ c_1 : Nat, (y0.cell 8) = D.sl a_1 9 es_1
 c_1 ∧ (0 ≤ n5 ∧ n5 < (es_1.length : Int)) ∧ ∀ N1, N ≤ N1 → ACalls prog 131 [.int .i64] [.dg 9 (List.getD es_1 n5.toNat default), .int .i64 n1] N1 (fun n N2 =>
 N1 ≤ N2 → L_spec_l5Left_3 Q N0 n (IntKind.i64.wrap (n5 + 1)) y0 N2)) (∀ N3, N ≤ N3 → Q n1 N3)) (∀ N4, N ≤ N4 → Q n1 N4)) : L_spec_l5Left_3 Q N0 n1 n5 y0 N :=
  hE (H := H_spec_l5Left) (by kernel_rfl) h
theorem w_slices_ContainsFunc_Term_i0b (N : Nat) (a0 : Option Addr) (e0 : List D) (c0 : Nat) (a1_0 : Addr) (Q : QT [.bool]) (h :
Bel N (D.sl a0 9 e0 c0) → ∀ N1, N ≤ N1 → ACalls prog 171 [.int .i64] [.sv a0 9 e0 c0, .fn 137 [.pd a1_0 0 (.fn 94 [])]] N1 (fun n N2 => N1 ≤ N2 → ∀ N3, N2
 ≤ N3 → Q (decide (n ≥ 0)) N3)) : ACalls prog 136 [.bool] [.sv a0 9 e0 c0, .fn 137 [.pd a1_0 0 (.fn 94 [])]] N Q :=
  eE (H := H_slices_ContainsFunc_Termb) (by kernel_rfl) (by kernel_rfl) h
theorem w_slices_IndexFunc_Term_i0b (N : Nat) (a0 : Option Addr) (e0 : List D) (c0 : Nat) (a1_0 : Addr) (Q : QT [.int .i64]) (h :
Bel N (D.sl a0 9 e0 c0) → L_slices_IndexFunc_Term_2b Q N a0 e0 c0 a1_0 (e0.length : Int) 0 N) : ACalls prog 171 [.int .i64] [.sv a0 9 e0 c0, .fn 137 [.pd a1_0 0 (.fn 94 [])]] N Q :=
  eE (H := H_slices_IndexFunc_Termb) (by kernel_rfl) (by kernel_rfl) h
theorem l_slices_IndexFunc_Term_2b (Q : QT [.int .i64]) (N0 : Nat) (a0 : Option Addr) (e0 : List D) (c0 : Nat) (a1_0 : Addr) (n7 n8 : Int) (N : Nat) (h :
Br (decide (n8 < n7)) ((0 ≤ n8 ∧ n8 < (e0.length : Int)) ∧ ∀ N1, N ≤ N1 → ACalls prog 137 [.bool] [.dg 9 (List.getD e0 n8.toNat default), .pd a1_0 0 (.fn 94 [])]
 N1 (fun b N2 => N1 ≤ N2 → Br b (∀ N3, N2 ≤ N3 → Q n8 N3) (L_slices_IndexFunc_Term_2b Q N0 a0 e0 c0 a1_0 n7 (IntKind.i64.wrap (n8 + 1)) N2))) (∀ N4, N ≤
 N4 → Q (-1) N4)) : L_slices_IndexFunc_Term_2b Q N0 a0 e0 c0 a1_0 n7 n8 N :=
  hE (H := H_slices_IndexFunc_Termb) (by kernel_rfl) h
theorem w_impl_allTerms_1_i0b (N : Nat) (x0 : D) (a1 : Addr) (Q : QT [.bool]) (h :
Bel N x0 → ∀ N1, N ≤ N1 → ACalls prog 93 [.bool] [.dg 9 x0, .fn 94 []] N1 (fun b N2 => N1 ≤ N2 → ∀ N3, N2 ≤ N3 → Q (!b) N3)) : ACalls prog 137 [.bool] [.dg 9 x0, .pd a1 0 (.fn 94 [])] N Q :=
  eE (H := H_impl_allTerms_1b) (by kernel_rfl) (by kernel_rfl) h

end Go.Proofs.YthfoibejlpfhpaaGreat

/- Printed by gen.py: what the functions come to. -/
set_option linter.unusedVariables false
set_option maxRecDepth 100000
namespace Go.Proofs.YthfoibejlpfhpaaGreat
open Go Go.Proofs Go.Proofs.Tryz
def H_impl_BodyType_1 : Hint := ⟨[], [], []⟩
theorem w_impl_BodyType_1 (N : Nat) (x0 : D) (Q : QT [.bool]) (h :
Bel N x0 → ∃ n : Int, (x0.cell 0) = D.lit (.int .i64 n) ∧ ∀ N1, N ≤ N1 → ACalls prog 95 [.bool] [.int .i64 n, .int .i64 1, .int .i64 5] N1 (fun b N2 => N1 ≤
 N2 → Br b (∀ N3, N2 ≤ N3 → Q true N3) (∃ n_1 : Int, (x0.cell 0) = D.lit (.int .i64 n_1) ∧ ∀ N4, N2 ≤ N4 → Q (n_1 == 8) N4))) : ACalls prog 94 [.bool] [PV.dg 9 x0] N Q :=
  eE (H := H_impl_BodyType_1) (by kernel_rfl) (by kernel_rfl) h

end Go.Proofs.YthfoibejlpfhpaaGreat

/- Printed by gen.py: what the functions come to. -/
set_option linter.unusedVariables false
set_option maxRecDepth 100000
namespace Go.Proofs.YthfoibejlpfhpaaGreat
open Go Go.Proofs Go.Proofs.Tryz
def H_slices_Clone_place_places : Hint := ⟨[], [], []⟩
def H_impl_places_and : Hint := ⟨[], [], [(1, [en 0, en 2, en 3, eh 1, eh 4, en 5])]⟩
theorem w_slices_Clone_place_places (N : Nat) (a0 : Option Addr) (e0 : List D) (c0 : Nat) (Q : QT [.row 98 3]) (h :
Bel N (D.sl a0 3 e0 c0) → Br (Option.isNone a0) (∀ N1, N ≤ N1 → Q [] 0 N1) ((0 = 0 ∧ 0 = 0) ∧ apBound [] e0 32 ∧ ∀ (c : Nat), (([] ++ e0).length = ([] ++ e0).length
 ∧ c = c) ∧ ∀ N2, N ≤ N2 → Q ([] ++ e0) c N2)) : ACalls prog 104 [.row 98 3] [PV.sv a0 3 e0 c0] N Q :=
  eE (H := H_slices_Clone_place_places) (by kernel_rfl) (by kernel_rfl) h
theorem w_impl_places_and (N : Nat) (a0 : Option Addr) (e0 : List D) (c0 : Nat) (x1 : D) (Q : QT [.sl 3]) (h :
Bel N (D.sl a0 3 e0 c0) → Bel N x1 → ∀ N1, N ≤ N1 → ACalls prog 104 [.row (OfNat.ofNat 98) 3] [.sv a0 3 e0 c0] N1 (fun es c N2 => N1 ≤ N2 → Bel N2 (D.ag es)
 → (es.length = es.length ∧ c = c) ∧ apBound es [x1] 32 ∧ ∀ (c_1 : Nat), ((es ++ [x1]).length = (es ++ [x1]).length ∧ c_1 = c_1) ∧ ((es ++ [x1]).length = (es ++ [x1]).length
 ∧ c_1 = c_1) ∧ ∀ a N3, N2 ≤ N3 → Fresh N N3 a [D.ag (es ++ [x1])] → ∀ N4, N3 ≤ N4 → Q a (es ++ [x1]) c_1 N4)) : ACalls prog 66 [.sl 3] [PV.sv a0 3 e0 c0, PV.dg 3 x1] N Q :=
  eE (H := H_impl_places_and) (by kernel_rfl) (by kernel_rfl) h
end Go.Proofs.YthfoibejlpfhpaaGreat

/- Printed by gen.py: what the functions come to. -/
set_option linter.unusedVariables false
set_option maxRecDepth 100000
namespace Go.Proofs.YthfoibejlpfhpaaGreat
open Go Go.Proofs Go.Proofs.Tryz
def H_spec_l1Bit : Hint := ⟨[], [], []⟩
def H_impl_bit : Hint := ⟨[], [], []⟩
theorem w_spec_l1Bit (N : Nat) (b0 : Bool) (Q : QT [.int .i64]) (h :
Br b0 (∀ N1, N ≤ N1 → Q 1 N1) (∀ N2, N ≤ N2 → Q 0 N2)) : ACalls prog 45 [.int .i64] [PV.bool b0] N Q :=
  eE (H := H_spec_l1Bit) (by kernel_rfl) (by kernel_rfl) h
theorem w_impl_bit (N : Nat) (b0 : Bool) (Q : QT [.int .i64]) (h :
Br b0 (∀ N1, N ≤ N1 → Q 1 N1) (∀ N2, N ≤ N2 → Q 0 N2)) : ACalls prog 49 [.int .i64] [PV.bool b0] N Q :=
  eE (H := H_impl_bit) (by kernel_rfl) (by kernel_rfl) h
end Go.Proofs.YthfoibejlpfhpaaGreat

/- Printed by gen.py: what the functions come to. -/
set_option linter.unusedVariables false
set_option maxRecDepth 100000
namespace Go.Proofs.YthfoibejlpfhpaaGreat
open Go Go.Proofs Go.Proofs.Tryz
def H_laws_toIntS : Hint := ⟨[hc 3 [0, 3, 4]], [], []⟩
def H_laws_eqIntS : Hint := ⟨[hc 4 [0, 1, 5]], [], [(6, [en 0, en 1, en 2, en 3, en 4, en 5, en 6, en 7, en 8])]⟩
def H_spec_l15Fits : Hint := ⟨[], [], []⟩
def H_spec_Reduce : Hint := ⟨[], [], []⟩
def H_spec_ApplyOp : Hint := ⟨[], [], []⟩
def H_spec_l15Eval : Hint := ⟨[hc 4 [1, 2, 5]], [], [(6, [en 0, en 1, en 2, en 3, en 4, en 5, en 6, en 7]), (9, hs 7 [ec 5 [40]]), (12, hs 7 [ec 5 [50]]), (16, [en 0, en 1, en 2, en 3, en 4, en 5, en 6, en 11, ec 7 [69], en 8, en 9, en 10, ec 12 [74], en 13]), (19, [en 0, en 1, en 2, en 3, en 4, en 5, en 6, en 7, en 8, en 9, en 10, en 11, ec 12 [92], en 13, en 14, eh 15, ec 16 [85], en 17])]⟩
def H_spec_EvalBody : Hint := ⟨[hc 6 [0, 2, 4, 10, 11] [(10, 93, 2)]], [], [(1, hs 9 [ec 2 [14]]), (8, [en 0, en 1, en 2, en 3, en 4, en 5, en 6, en 7, en 8, ec 9 [38], en 10]), (10, [en 0, en 1, en 2, en 3, en 4, en 5, en 6, en 7, en 8, en 9, en 10, en 11, eh 12, eh 13]), (11, hs 5 [ec 2 [58]])]⟩
def H_impl_isArg : Hint := ⟨[], [], []⟩
def H_impl_areArgs : Hint := ⟨[hc 4 [1, 12, 13, 14]], [], [(6, [en 0, en 1, en 2, en 3, en 4, en 5, ec 6 [20], en 7])]⟩
def H_impl_Reduce : Hint := ⟨[], [], []⟩
def H_impl_ApplyOp : Hint := ⟨[], [], []⟩
def H_impl_places_value : Hint := ⟨[hc 13 [0, 3, 5, 59, 60, 61]], [], [(8, [en 0, en 1, en 2, en 3, en 4, en 5, en 6, en 7, ec 8 [33], en 9, en 10, en 11, ec 12 [37], en 13]), (10, [en 0, en 1, en 2, en 3, en 4, en 5, en 6, en 7, en 11, en 12, en 13, en 14, ec 8 [48], en 9, eh 10, ec 15 [55], en 16]), (15, hs 7 [ec 4 [69]]), (17, [en 0, en 1, en 2, en 3, en 4, en 5, en 6, en 7, eh 8, en 9, en 10, en 11, en 12, en 13])]⟩
def H_impl_EvalBody : Hint := ⟨[hc 6 [2, 4, 10, 28, 29, 30]], [], [(1, hs 9 [ec 2 [15]]), (8, [en 0, en 1, en 2, en 3, en 4, en 5, en 6, en 7, eh 8, eh 9]), (10, hs 5 [ec 2 [46]])]⟩
def H_laws_FnExactEvalBody : Hint := ⟨[], [], [(7, hs 4 [ec 2 [23]]), (10, [en 0, en 2, en 4, eh 1, ec 3 [31], eh 5, ec 6 [32], en 7, en 8, en 9, en 10, en 11]), (12, hs 4 [ec 1 [40]]), (14, hs 9 [ec 3 [46]]), (19, [en 0, en 1, ec 2 [65], ec 3 [64, 66], en 4])]⟩
def L_laws_toIntS_3 (Q : QT [.sl 0]) (N0 : Nat) (a0 : Option Addr) (e0 : List D) (c0 m3 c3 : Nat) (n4 : Int) (r0 : List D) (q0 : Nat) (N : Nat) : Prop := AT prog 27 [.sl 0] Q N0 .ord (loopAt prog 27 3) ⟨.sv a0 0 e0 c0 :: an 2 (.sb 0 0 0 m3 c3 :: .int .i64 n4 :: an 17 []), [.arr 3 0 r0 q0], N, none⟩
def L_laws_eqIntS_4 (Q : QT [.bool]) (N0 : Nat) (a0 : Option Addr) (e0 : List D) (c0 : Nat) (a1 : Option Addr) (e1 : List D) (c1 : Nat) (n5 : Int) (N : Nat) : Prop := AT prog 29 [.bool] Q N0 .ord (loopAt prog 29 4) ⟨.sv a0 0 e0 c0 :: .sv a1 0 e1 c1 :: an 3 (.int .i64 n5 :: an 20 []), [], N, none⟩
def L_spec_l15Eval_4 (Q : QT [.int .i64]) (N0 : Nat) (a1 : Option Addr) (e1 : List D) (c1 : Nat) (n5 : Int) (y0 : D) (N : Nat) : Prop := AT prog 64 [.int .i64] Q N0 .ord (loopAt prog 64 4) ⟨an 1 (.sv a1 2 e1 c1 :: .pb 0 0 0 0 :: an 2 (.int .i64 n5 :: an 95 [])), [.vd y0 9], N, none⟩
def L_spec_EvalBody_6 (Q : QT [.int .i64, .bool]) (N0 : Nat) (a0 : Option Addr) (e0 : List D) (c0 : Nat) (a2 : Option Addr) (e2 : List D) (c2 m10 c10 : Nat) (n11 : Int) (y0 : D) (r1 : List D) (q1 : Nat) (N : Nat) : Prop := AT prog 26 [.int .i64, .bool] Q N0 .ord (loopAt prog 26 6) ⟨.sv a0 4 e0 c0 :: an 1 (.sv a2 0 e2 c2 :: an 1 (.pb 0 0 0 0 :: an 5 (.sb 1 2 0 m10 c10 :: .int .i64 n11 :: an 49 []))), [.vd y0 9, .arr 93 2 r1 q1], N, none⟩
def L_impl_areArgs_4 (Q : QT [.bool]) (N0 : Nat) (a1 : Option Addr) (e1 : List D) (c1 : Nat) (a12 : Option Addr) (e12 : List D) (c12 : Nat) (n13 n14 : Int) (N : Nat) : Prop := AT prog 65 [.bool] Q N0 .ord (loopAt prog 65 4) ⟨an 1 (.sv a1 0 e1 c1 :: an 10 (.sv a12 4 e12 c12 :: .int .i64 n13 :: .int .i64 n14 :: an 13 [])), [], N, none⟩
def L_impl_places_value_13 (Q : QT [.int .i64]) (N0 : Nat) (a0 : Option Addr) (e0 : List D) (c0 m5 c5 : Nat) (a59 : Option Addr) (e59 : List D) (c59 : Nat) (n60 n61 : Int) (y0 : D) (r1 : List D) (q1 : Nat) (N : Nat) : Prop := AT prog 67 [.int .i64] Q N0 .ord (loopAt prog 67 13) ⟨.sv a0 3 e0 c0 :: an 2 (.pb 0 0 0 0 :: an 1 (.sb 1 0 0 m5 c5 :: an 53 (.sv a59 9 e59 c59 :: .int .i64 n60 :: .int .i64 n61 :: an 24 []))), [.vd y0 9, .arr 3 0 r1 q1], N, none⟩
def L_impl_EvalBody_6 (Q : QT [.int .i64, .bool]) (N0 : Nat) (a2 : Option Addr) (e2 : List D) (c2 m10 c10 : Nat) (a28 : Option Addr) (e28 : List D) (c28 : Nat) (n29 n30 : Int) (y0 : D) (r1 : List D) (q1 : Nat) (N : Nat) : Prop := AT prog 28 [.int .i64, .bool] Q N0 .ord (loopAt prog 28 6) ⟨an 2 (.sv a2 0 e2 c2 :: an 1 (.pb 0 0 0 0 :: an 5 (.sb 1 3 0 m10 c10 :: an 17 (.sv a28 4 e28 c28 :: .int .i64 n29 :: .int .i64 n30 :: an 17 [])))), [.vd y0 9, .arr 98 3 r1 q1], N, none⟩
def L_impl_EvalBody_6_v1 (Q : QT [.int .i64, .bool]) (N0 : Nat) (a2 : Option Addr) (e2 : List D) (c2 : Nat) (a10 : Option Addr) (e10 : List D) (c10 : Nat) (a28 : Option Addr) (e28 : List D) (c28 : Nat) (n29 n30 : Int) (y0 : D) (N : Nat) : Prop := AT prog 28 [.int .i64, .bool] Q N0 .ord (loopAt prog 28 6) ⟨an 2 (.sv a2 0 e2 c2 :: an 1 (.pb 0 0 0 0 :: an 5 (.sv a10 3 e10 c10 :: an 17 (.sv a28 4 e28 c28 :: .int .i64 n29 :: .int .i64 n30 :: an 17 [])))), [.vd y0 9], N, none⟩
theorem w_laws_toIntS (N : Nat) (a0 : Option Addr) (e0 : List D) (c0 : Nat) (Q : QT [.sl 0]) (h :
Bel N (D.sl a0 0 e0 c0) → (0 ≤ (e0.length : Int) ∧ (e0.length : Int) ≤ (e0.length : Int) ∧ (8 * (e0.length : Int)) ≤ 140737488355328 ∧ (e0.length : Int) ≤ 9223372036854775807)
 ∧ L_laws_toIntS_3 Q N a0 e0 c0 ((e0.length : Int)).toNat ((e0.length : Int)).toNat 0 (List.replicate ((e0.length : Int)).toNat (D.lit (.int .i64 0))) ((e0.length
 : Int)).toNat N) : ACalls prog 27 [.sl 0] [PV.sv a0 0 e0 c0] N Q :=
  eE (H := H_laws_toIntS) (by kernel_rfl) (by kernel_rfl) h
theorem w_laws_eqIntS (N : Nat) (a0 : Option Addr) (e0 : List D) (c0 : Nat) (a1 : Option Addr) (e1 : List D) (c1 : Nat) (Q : QT [.bool]) (h :
Bel N (D.sl a0 0 e0 c0) → Bel N (D.sl a1 0 e1 c1) → Br (bne (e0.length : Int) (e1.length : Int)) (∀ N1, N ≤ N1 → Q false N1) (L_laws_eqIntS_4 Q N a0 e0 c0 a1
 e1 c1 0 N)) : ACalls prog 29 [.bool] [PV.sv a0 0 e0 c0, PV.sv a1 0 e1 c1] N Q :=
  eE (H := H_laws_eqIntS) (by kernel_rfl) (by kernel_rfl) h
theorem w_spec_l15Fits (N : Nat) (x0 : D) (n1 : Int) (Q : QT [.bool]) (h :
Bel N x0 → ∃ n : Int, (x0.cell 0) = D.lit (.int .i64 n) ∧ Br (n == 2) (∀ N1, N ≤ N1 → ACalls prog 101 [.bool] [.int .i64 n1, .int .i64 0, .int .i64 1] N1 (fun
 b N2 => N1 ≤ N2 → ∀ N3, N2 ≤ N3 → Q b N3)) (∀ N4, N ≤ N4 → ACalls prog 101 [.bool] [.int .i64 n1, .int .i64 0, .int .i64 10006] N4 (fun b_1 N5 => N4
 ≤ N5 → ∀ N6, N5 ≤ N6 → Q b_1 N6))) : ACalls prog 63 [.bool] [PV.dg 2 x0, PV.int .i64 n1] N Q :=
  eE (H := H_spec_l15Fits) (by kernel_rfl) (by kernel_rfl) h
theorem w_spec_Reduce (N : Nat) (n0 : Int) (Q : QT [.int .i64]) (h :
(10007 : Int) ≠ (0 : Int) ∧ Br (decide (Int.tmod n0 10007 < 0)) (∀ N1, N ≤ N1 → Q (IntKind.i64.wrap (Int.tmod n0 10007 + 10007)) N1) (∀ N2, N ≤ N2 → Q (Int.tmod
 n0 10007) N2)) : ACalls prog 146 [.int .i64] [PV.int .i64 n0] N Q :=
  eE (H := H_spec_Reduce) (by kernel_rfl) (by kernel_rfl) h
theorem w_spec_ApplyOp (N : Nat) (s0 : ByteArray) (n1 n2 : Int) (Q : QT [.int .i64, .bool]) (h :
∀ N1, N ≤ N1 → ACalls prog 101 [.bool] [.int .i64 n1, .int .i64 0, .int .i64 10006] N1 (fun b N2 => N1 ≤ N2 → Br (!b) (∀ N3, N2 ≤ N3 → Q 0 false N3) (∀
 N4, N2 ≤ N4 → ACalls prog 101 [.bool] [.int .i64 n2, .int .i64 0, .int .i64 10006] N4 (fun b_1 N5 => N4 ≤ N5 → Br (!b_1) (∀ N6, N5 ≤ N6 → Q 0 false N6)
 (Br (ByteArray.toList s0 == ByteArray.toList (bytes [43])) (∀ N7, N5 ≤ N7 → ACalls prog 146 [.int .i64] [.int .i64 (IntKind.i64.wrap (n1 + n2))] N7 (fun n N8
 => N7 ≤ N8 → ∀ N9, N8 ≤ N9 → Q n true N9)) (Br (ByteArray.toList s0 == ByteArray.toList (bytes [45])) (∀ N10, N5 ≤ N10 → ACalls prog 146 [.int .i64] [.int
 .i64 (IntKind.i64.wrap (n1 - n2))] N10 (fun n_1 N11 => N10 ≤ N11 → ∀ N12, N11 ≤ N12 → Q n_1 true N12)) (Br (ByteArray.toList s0 == ByteArray.toList (bytes
 [42])) (∀ N13, N5 ≤ N13 → ACalls prog 146 [.int .i64] [.int .i64 (IntKind.i64.wrap (n1 * n2))] N13 (fun n_2 N14 => N13 ≤ N14 → ∀ N15, N14 ≤ N15 → Q n_2
 true N15)) (Br (ByteArray.toList s0 == ByteArray.toList (bytes [61])) (∀ N16, N5 ≤ N16 → ACalls prog 45 [.int .i64] [.bool (n1 == n2)] N16 (fun n_3 N17 =>
 N16 ≤ N17 → ∀ N18, N17 ≤ N18 → Q n_3 true N18)) (Br (ByteArray.toList s0 == ByteArray.toList (bytes [60])) (∀ N19, N5 ≤ N19 → ACalls prog 45 [.int .i64]
 [.bool (decide (n1 < n2))] N19 (fun n_4 N20 => N19 ≤ N20 → ∀ N21, N20 ≤ N21 → Q n_4 true N21)) (Br (ByteArray.toList s0 == ByteArray.toList (bytes [38]))
 (Br (n1 == 1) (∀ N22, N5 ≤ N22 → ACalls prog 45 [.int .i64] [.bool (n2 == 1)] N22 (fun n_5 N23 => N22 ≤ N23 → ∀ N24, N23 ≤ N24 → Q n_5 true N24)) (∀ N25,
 N5 ≤ N25 → ACalls prog 45 [.int .i64] [.bool false] N25 (fun n_6 N26 => N25 ≤ N26 → ∀ N27, N26 ≤ N27 → Q n_6 true N27))) (Br (ByteArray.toList s0 == ByteArray.toList
 (bytes [124])) (Br (n1 == 1) (∀ N28, N5 ≤ N28 → ACalls prog 45 [.int .i64] [.bool true] N28 (fun n_7 N29 => N28 ≤ N29 → ∀ N30, N29 ≤ N30 → Q n_7 true N30))
 (∀ N31, N5 ≤ N31 → ACalls prog 45 [.int .i64] [.bool (n2 == 1)] N31 (fun n_8 N32 => N31 ≤ N32 → ∀ N33, N32 ≤ N33 → Q n_8 true N33))) (Br (ByteArray.toList
 s0 == ByteArray.toList (bytes [33])) (∀ N34, N5 ≤ N34 → ACalls prog 45 [.int .i64] [.bool (n1 == 0)] N34 (fun n_9 N35 => N34 ≤ N35 → ∀ N36, N35 ≤ N36 →
 Q n_9 true N36)) (∀ N37, N5 ≤ N37 → Q 0 false N37))))))))))))) : ACalls prog 102 [.int .i64, .bool] [PV.str s0, PV.int .i64 n1, PV.int .i64 n2] N Q :=
  eE (H := H_spec_ApplyOp) (by kernel_rfl) (by kernel_rfl) h
theorem w_spec_l15Eval (N : Nat) (x0 : D) (a1 : Option Addr) (e1 : List D) (c1 : Nat) (Q : QT [.int .i64]) (h :
Bel N x0 → Bel N (D.sl a1 2 e1 c1) → ∃ n : Int, (x0.cell 0) = D.lit (.int .i64 n) ∧ Br (n == 1) (L_spec_l15Eval_4 Q N a1 e1 c1 (IntKind.i64.wrap ((e1.length : Int)
 - 1)) x0 N) (Br (n == 4) (∃ a es, ∃ c : Nat, (x0.cell 8) = D.sl a 9 es c ∧ ((0 : Int) ≤ (0 : Int) ∧ 0 < (es.length : Int)) ∧ ∀ N1, N ≤ N1 → ACalls prog 64 [.int
 .i64] [.dg 9 (List.getD es 0 default), .sv a1 2 e1 c1] N1 (fun n_1 N2 => N1 ≤ N2 → ∃ a_1 es_1, ∃ c_1 : Nat, (x0.cell 8) = D.sl a_1 9 es_1 c_1 ∧ Br (decide ((es_1.length
 : Int) > 1)) (∃ a_2 es_2, ∃ c_2 : Nat, (x0.cell 8) = D.sl a_2 9 es_2 c_2 ∧ ((0 : Int) ≤ (1 : Int) ∧ 1 < (es_2.length : Int)) ∧ ∀ N3, N2 ≤ N3 → ACalls prog 64
 [.int .i64] [.dg 9 (List.getD es_2 1 default), .sv a1 2 e1 c1] N3 (fun n_2 N4 => N3 ≤ N4 → ∃ s, (x0.cell 1) = D.lit (.string s) ∧ ∀ N5, N4 ≤ N5 → ACalls prog
 102 [.int .i64, .bool] [.str s, .int .i64 n_1, .int .i64 n_2] N5 (fun n_3 b N6 => N5 ≤ N6 → ∀ N7, N6 ≤ N7 → Q n_3 N7))) (∃ s_1, (x0.cell 1) = D.lit (.string
 s_1) ∧ ∀ N8, N2 ≤ N8 → ACalls prog 102 [.int .i64, .bool] [.str s_1, .int .i64 n_1, .int .i64 0] N8 (fun n_4 b_1 N9 => N8 ≤ N9 → ∀ N10, N9 ≤ N10 → Q n_4
 N10)))) (Br (n == 5) (∃ a_3 es_3, ∃ c_3 : Nat, (x0.cell 8) = D.sl a_3 9 es_3 c_3 ∧ ∃ a_4 es_4, ∃ c_4 : Nat, (x0.cell 8) = D.sl a_4 9 es_4 c_4 ∧ ((0 : Int) ≤ (0
 : Int) ∧ 0 < (es_4.length : Int)) ∧ ∀ N11, N ≤ N11 → ACalls prog 64 [.int .i64] [.dg 9 (List.getD es_4 0 default), .sv a1 2 e1 c1] N11 (fun n_5 N12 => N11 ≤
 N12 → (0 ≤ IntKind.i64.wrap (2 - n_5) ∧ IntKind.i64.wrap (2 - n_5) < (es_3.length : Int)) ∧ ∀ N13, N12 ≤ N13 → ACalls prog 64 [.int .i64] [.dg 9 (List.getD es_3
 (IntKind.i64.wrap (2 - n_5)).toNat default), .sv a1 2 e1 c1] N13 (fun n_6 N14 => N13 ≤ N14 → ∀ N15, N14 ≤ N15 → Q n_6 N15))) (Br (n == 8) ((0 = 0 ∧ 0 = 0)
 ∧ apBound [] e1 24 ∧ ∀ (c_5 : Nat), ∃ a_5 es_5, ∃ c_6 : Nat, (x0.cell 8) = D.sl a_5 9 es_5 c_6 ∧ ((0 : Int) ≤ (1 : Int) ∧ 1 < (es_5.length : Int)) ∧ ∃ s_2, (x0.cell
 1) = D.lit (.string s_2) ∧ ∃ a_6 es_6, ∃ c_7 : Nat, (x0.cell 8) = D.sl a_6 9 es_6 c_7 ∧ ((0 : Int) ≤ (0 : Int) ∧ 0 < (es_6.length : Int)) ∧ ∀ N16, N ≤ N16 → ACalls
 prog 64 [.int .i64] [.dg 9 (List.getD es_6 0 default), .sv a1 2 e1 c1] N16 (fun n_7 N17 => N16 ≤ N17 → (([] ++ e1).length = ([] ++ e1).length ∧ c_5 = c_5) ∧
 apBound ([] ++ e1) [D.ag [D.lit (.string s_2), D.lit (.int .i64 n_7)]] 24 ∧ ∀ (c_8 : Nat), ((([] ++ e1) ++ [D.ag [D.lit (.string s_2), D.lit (.int .i64 n_7)]]).length
 = (([] ++ e1) ++ [D.ag [D.lit (.string s_2), D.lit (.int .i64 n_7)]]).length ∧ c_8 = c_8) ∧ ∀ a_7, ApA a_7 (([] ++ e1) ++ [D.ag [D.lit (.string s_2), D.lit (.int
 .i64 n_7)]]) → Off [a_7] (List.getD es_5 1 default) → ∀ N18, N17 ≤ N18 → BelA N18 [a_7] → ACalls prog 64 [.int .i64] [.dg 9 (List.getD es_5 1 default), .sv a_7
 2 (([] ++ e1) ++ [D.ag [D.lit (.string s_2), D.lit (.int .i64 n_7)]]) c_8] N18 (fun n_8 N19 => N18 ≤ N19 → ∀ N20, N19 ≤ N20 → Q n_8 N20))) (∃ n_9 : Int,
 (x0.cell 3) = D.lit (.int .i64 n_9) ∧ ∀ N21, N ≤ N21 → Q n_9 N21))))) : ACalls prog 64 [.int .i64] [PV.dg 9 x0, PV.sv a1 2 e1 c1] N Q :=
  eE (H := H_spec_l15Eval) (by kernel_rfl) (by kernel_rfl) h
theorem w_spec_EvalBody (N : Nat) (a0 : Option Addr) (e0 : List D) (c0 : Nat) (x1 : D) (a2 : Option Addr) (e2 : List D) (c2 : Nat) (Q : QT [.int .i64, .bool]) (h :
Bel N (D.sl a0 4 e0 c0) → Bel N x1 → Bel N (D.sl a2 0 e2 c2) → ∀ N1, N ≤ N1 → ACalls prog 53 [.ag 2, .bool] [.sv a0 4 e0 c0, .dg 9 x1] N1 (fun x b N2 => N1
 ≤ N2 → Bel N2 x → Br (!b) (∀ N3, N2 ≤ N3 → Q 0 false N3) (Br (bne (e2.length : Int) (e0.length : Int)) (∀ N4, N2 ≤ N4 → Q 0 false N4) (L_spec_EvalBody_6
 Q N a0 e0 c0 a2 e2 c2 0 0 0 x1 [] 0 N2)))) : ACalls prog 26 [.int .i64, .bool] [PV.sv a0 4 e0 c0, PV.dg 9 x1, PV.sv a2 0 e2 c2] N Q :=
  eE (H := H_spec_EvalBody) (by kernel_rfl) (by kernel_rfl) h
theorem w_impl_isArg (N : Nat) (x0 : D) (n1 : Int) (Q : QT [.bool]) (h :
Bel N x0 → ∃ n : Int, (x0.cell 0) = D.lit (.int .i64 n) ∧ Br (n == 2) (∀ N1, N ≤ N1 → ACalls prog 95 [.bool] [.int .i64 n1, .int .i64 0, .int .i64 1] N1 (fun
 b N2 => N1 ≤ N2 → ∀ N3, N2 ≤ N3 → Q b N3)) (∀ N4, N ≤ N4 → ACalls prog 147 [.bool] [.int .i64 n1] N4 (fun b_1 N5 => N4 ≤ N5 → ∀ N6, N5 ≤ N6 → Q b_1
 N6))) : ACalls prog 103 [.bool] [PV.dg 2 x0, PV.int .i64 n1] N Q :=
  eE (H := H_impl_isArg) (by kernel_rfl) (by kernel_rfl) h
theorem w_impl_areArgs (N : Nat) (a0 : Option Addr) (e0 : List D) (c0 : Nat) (a1 : Option Addr) (e1 : List D) (c1 : Nat) (Q : QT [.bool]) (h :
Bel N (D.sl a0 4 e0 c0) → Bel N (D.sl a1 0 e1 c1) → Br (bne (e0.length : Int) (e1.length : Int)) (∀ N1, N ≤ N1 → Q false N1) (L_impl_areArgs_4 Q N a1 e1 c1 a0
 e0 c0 (e0.length : Int) 0 N)) : ACalls prog 65 [.bool] [PV.sv a0 4 e0 c0, PV.sv a1 0 e1 c1] N Q :=
  eE (H := H_impl_areArgs) (by kernel_rfl) (by kernel_rfl) h
theorem w_impl_Reduce (N : Nat) (n0 : Int) (Q : QT [.int .i64]) (h :
(10007 : Int) ≠ (0 : Int) ∧ (10007 : Int) ≠ (0 : Int) ∧ ∀ N1, N ≤ N1 → Q (Int.tmod (IntKind.i64.wrap (Int.tmod n0 10007 + 10007)) 10007) N1) : ACalls prog 149 [.int .i64] [PV.int .i64 n0] N Q :=
  eE (H := H_impl_Reduce) (by kernel_rfl) (by kernel_rfl) h
theorem w_impl_ApplyOp (N : Nat) (s0 : ByteArray) (n1 n2 : Int) (Q : QT [.int .i64, .bool]) (h :
∀ N1, N ≤ N1 → ACalls prog 147 [.bool] [.int .i64 n1] N1 (fun b N2 => N1 ≤ N2 → Br (!b) (∀ N3, N2 ≤ N3 → Q 0 false N3) (∀ N4, N2 ≤ N4 → ACalls prog
 147 [.bool] [.int .i64 n2] N4 (fun b_1 N5 => N4 ≤ N5 → Br (!b_1) (∀ N6, N5 ≤ N6 → Q 0 false N6) (Br (ByteArray.toList s0 == ByteArray.toList (bytes [43]))
 (∀ N7, N5 ≤ N7 → ACalls prog 149 [.int .i64] [.int .i64 (IntKind.i64.wrap (n1 + n2))] N7 (fun n N8 => N7 ≤ N8 → ∀ N9, N8 ≤ N9 → Q n true N9)) (Br (ByteArray.toList
 s0 == ByteArray.toList (bytes [45])) (∀ N10, N5 ≤ N10 → ACalls prog 149 [.int .i64] [.int .i64 (IntKind.i64.wrap (n1 - n2))] N10 (fun n_1 N11 => N10 ≤ N11
 → ∀ N12, N11 ≤ N12 → Q n_1 true N12)) (Br (ByteArray.toList s0 == ByteArray.toList (bytes [42])) (∀ N13, N5 ≤ N13 → ACalls prog 149 [.int .i64] [.int .i64
 (IntKind.i64.wrap (n1 * n2))] N13 (fun n_2 N14 => N13 ≤ N14 → ∀ N15, N14 ≤ N15 → Q n_2 true N15)) (Br (ByteArray.toList s0 == ByteArray.toList (bytes [61]))
 (∀ N16, N5 ≤ N16 → ACalls prog 49 [.int .i64] [.bool (n1 == n2)] N16 (fun n_3 N17 => N16 ≤ N17 → ∀ N18, N17 ≤ N18 → Q n_3 true N18)) (Br (ByteArray.toList
 s0 == ByteArray.toList (bytes [60])) (∀ N19, N5 ≤ N19 → ACalls prog 49 [.int .i64] [.bool (decide (n1 < n2))] N19 (fun n_4 N20 => N19 ≤ N20 → ∀ N21, N20
 ≤ N21 → Q n_4 true N21)) (Br (ByteArray.toList s0 == ByteArray.toList (bytes [38])) (Br (n1 == 1) (∀ N22, N5 ≤ N22 → ACalls prog 49 [.int .i64] [.bool (n2 ==
 1)] N22 (fun n_5 N23 => N22 ≤ N23 → ∀ N24, N23 ≤ N24 → Q n_5 true N24)) (∀ N25, N5 ≤ N25 → ACalls prog 49 [.int .i64] [.bool false] N25 (fun n_6 N26
 => N25 ≤ N26 → ∀ N27, N26 ≤ N27 → Q n_6 true N27))) (Br (ByteArray.toList s0 == ByteArray.toList (bytes [124])) (Br (n1 == 1) (∀ N28, N5 ≤ N28 → ACalls
 prog 49 [.int .i64] [.bool true] N28 (fun n_7 N29 => N28 ≤ N29 → ∀ N30, N29 ≤ N30 → Q n_7 true N30)) (∀ N31, N5 ≤ N31 → ACalls prog 49 [.int .i64] [.bool
 (n2 == 1)] N31 (fun n_8 N32 => N31 ≤ N32 → ∀ N33, N32 ≤ N33 → Q n_8 true N33))) (Br (ByteArray.toList s0 == ByteArray.toList (bytes [33])) (∀ N34, N5 ≤
 N34 → ACalls prog 49 [.int .i64] [.bool (n1 == 0)] N34 (fun n_9 N35 => N34 ≤ N35 → ∀ N36, N35 ≤ N36 → Q n_9 true N36)) (∀ N37, N5 ≤ N37 → Q 0 false N37)))))))))))) 
 ) : ACalls prog 106 [.int .i64, .bool] [PV.str s0, PV.int .i64 n1, PV.int .i64 n2] N Q :=
  eE (H := H_impl_ApplyOp) (by kernel_rfl) (by kernel_rfl) h
theorem w_impl_places_value (N : Nat) (a0 : Option Addr) (e0 : List D) (c0 : Nat) (x1 : D) (Q : QT [.int .i64]) (h :
Bel N (D.sl a0 3 e0 c0) → Bel N x1 → ∃ n : Int, (x1.cell 0) = D.lit (.int .i64 n) ∧ Br (n == 1) (∃ s, (x1.cell 1) = D.lit (.string s) ∧ ∀ N1, N ≤ N1 → ACalls prog
 105 [.ag 3] [.sv a0 3 e0 c0, .str s] N1 (fun x N2 => N1 ≤ N2 → Bel N2 x → ∃ n_1 : Int, (x.cell 1) = D.lit (.int .i64 n_1) ∧ ∀ N3, N2 ≤ N3 → Q n_1 N3)) (Br
 (n == 2) (∃ n_2 : Int, (x1.cell 3) = D.lit (.int .i64 n_2) ∧ ∀ N4, N ≤ N4 → Q n_2 N4) (Br (n == 3) (∃ n_3 : Int, (x1.cell 3) = D.lit (.int .i64 n_3) ∧ ∀ N5,
 N ≤ N5 → Q n_3 N5) (Br (n == 5) (∃ a es, ∃ c : Nat, (x1.cell 8) = D.sl a 9 es c ∧ ∃ a_1 es_1, ∃ c_1 : Nat, (x1.cell 8) = D.sl a_1 9 es_1 c_1 ∧ ((0 : Int) ≤ (0
 : Int) ∧ 0 < (es_1.length : Int)) ∧ ∀ N6, N ≤ N6 → ACalls prog 67 [.int .i64] [.sv a0 3 e0 c0, .dg 9 (List.getD es_1 0 default)] N6 (fun n_4 N7 => N6 ≤ N7
 → (0 ≤ IntKind.i64.wrap (2 - n_4) ∧ IntKind.i64.wrap (2 - n_4) < (es.length : Int)) ∧ ∀ N8, N7 ≤ N8 → ACalls prog 67 [.int .i64] [.sv a0 3 e0 c0, .dg 9 (List.getD
 es (IntKind.i64.wrap (2 - n_4)).toNat default)] N8 (fun n_5 N9 => N8 ≤ N9 → ∀ N10, N9 ≤ N10 → Q n_5 N10))) (Br (n == 8) (∃ s_1, (x1.cell 1) = D.lit (.string
 s_1) ∧ ∃ a_2 es_2, ∃ c_2 : Nat, (x1.cell 8) = D.sl a_2 9 es_2 c_2 ∧ ((0 : Int) ≤ (0 : Int) ∧ 0 < (es_2.length : Int)) ∧ ∃ a_3 es_3, ∃ c_3 : Nat, (x1.cell 8) = D.sl
 a_3 9 es_3 c_3 ∧ ((0 : Int) ≤ (1 : Int) ∧ 1 < (es_3.length : Int)) ∧ ∀ N11, N ≤ N11 → ACalls prog 67 [.int .i64] [.sv a0 3 e0 c0, .dg 9 (List.getD es_2 0 default)]
 N11 (fun n_6 N12 => N11 ≤ N12 → ∀ N13, N12 ≤ N13 → ACalls prog 66 [.sl 3] [.sv a0 3 e0 c0, .dg 3 (D.ag [D.lit (.string s_1), D.lit (.int .i64 n_6), D.lit
 (.bool false)])] N13 (fun a_4 es_4 c_4 N14 => N13 ≤ N14 → Bel N14 (D.sl a_4 3 es_4 c_4) → ∀ N15, N14 ≤ N15 → ACalls prog 67 [.int .i64] [.sv a_4 3 es_4 c_4,
 .dg 9 (List.getD es_3 1 default)] N15 (fun n_7 N16 => N15 ≤ N16 → ∀ N17, N16 ≤ N17 → Q n_7 N17)))) (∃ a_5 es_5, ∃ c_5 : Nat, (x1.cell 8) = D.sl a_5 9 es_5
 c_5 ∧ L_impl_places_value_13 Q N a0 e0 c0 2 2 a_5 es_5 c_5 (es_5.length : Int) 0 x1 [D.lit (.int .i64 0), D.lit (.int .i64 0)] 2 N)))))) : ACalls prog 67 [.int .i64] [PV.sv a0 3 e0 c0, PV.dg 9 x1] N Q :=
  eE (H := H_impl_places_value) (by kernel_rfl) (by kernel_rfl) h
theorem w_impl_EvalBody (N : Nat) (a0 : Option Addr) (e0 : List D) (c0 : Nat) (x1 : D) (a2 : Option Addr) (e2 : List D) (c2 : Nat) (Q : QT [.int .i64, .bool]) (h :
Bel N (D.sl a0 4 e0 c0) → Bel N x1 → Bel N (D.sl a2 0 e2 c2) → ∀ N1, N ≤ N1 → ACalls prog 56 [.ag 2, .bool] [.sv a0 4 e0 c0, .dg 9 x1] N1 (fun x b N2 => N1
 ≤ N2 → Bel N2 x → Br (!b) (∀ N3, N2 ≤ N3 → Q 0 false N3) (∀ N4, N2 ≤ N4 → ACalls prog 65 [.bool] [.sv a0 4 e0 c0, .sv a2 0 e2 c2] N4 (fun b_1 N5 => N4
 ≤ N5 → Br (!b_1) (∀ N6, N5 ≤ N6 → Q 0 false N6) (L_impl_EvalBody_6 Q N a2 e2 c2 0 0 a0 e0 c0 (e0.length : Int) 0 x1 [] 0 N5))))) : ACalls prog 28 [.int .i64, .bool] [PV.sv a0 4 e0 c0, PV.dg 9 x1, PV.sv a2 0 e2 c2] N Q :=
  eE (H := H_impl_EvalBody) (by kernel_rfl) (by kernel_rfl) h
theorem w_laws_FnExactEvalBody (N : Nat) (a0 : Option Addr) (e0 : List D) (c0 : Nat) (x1 : D) (a2 : Option Addr) (e2 : List D) (c2 : Nat) (Q : QT [.bool]) (h :
Bel N (D.sl a0 4 e0 c0) → Bel N x1 → Bel N (D.sl a2 0 e2 c2) → Br (decide ((e2.length : Int) > 1048576)) (∀ N1, N ≤ N1 → Q true N1) (∀ N2, N ≤ N2 → ACalls prog
 11 [.int .i64] [.sv a0 4 e0 c0, .int .i64 1048576] N2 (fun n N3 => N2 ≤ N3 → Br (decide (n < 0)) (∀ N4, N3 ≤ N4 → Q true N4) (∀ N5, N3 ≤ N5 → ACalls prog
 12 [.int .i64] [.dg 9 x1, .int .i64 n] N5 (fun n_1 N6 => N5 ≤ N6 → Br (decide (n_1 < 0)) (∀ N7, N6 ≤ N7 → Q true N7) (∀ N8, N6 ≤ N8 → ACalls prog 14 [.sl
 4] [.sv a0 4 e0 c0] N8 (fun a es c N9 => N8 ≤ N9 → Bel N9 (D.sl a 4 es c) → ∀ N10, N9 ≤ N10 → ACalls prog 15 [.ag 9] [.dg 9 x1] N10 (fun x N11 => N10
 ≤ N11 → Bel N11 x → ∀ N12, N11 ≤ N12 → ACalls prog 27 [.sl 0] [.sv a2 0 e2 c2] N12 (fun a_1 es_1 c_1 N13 => N12 ≤ N13 → Bel N13 (D.sl a_1 0 es_1 c_1) →
 ∀ N14, N13 ≤ N14 → ACalls prog 26 [.int .i64, .bool] [.sv a 4 es c, .dg 9 x, .sv a_1 0 es_1 c_1] N14 (fun n_2 b N15 => N14 ≤ N15 → ∀ N16, N15 ≤ N16 → ACalls
 prog 14 [.sl 4] [.sv a0 4 e0 c0] N16 (fun a_2 es_2 c_2 N17 => N16 ≤ N17 → Bel N17 (D.sl a_2 4 es_2 c_2) → ∀ N18, N17 ≤ N18 → ACalls prog 15 [.ag 9] [.dg
 9 x1] N18 (fun x_1 N19 => N18 ≤ N19 → Bel N19 x_1 → ∀ N20, N19 ≤ N20 → ACalls prog 27 [.sl 0] [.sv a2 0 e2 c2] N20 (fun a_3 es_3 c_3 N21 => N20 ≤ N21
 → Bel N21 (D.sl a_3 0 es_3 c_3) → ∀ N22, N21 ≤ N22 → ACalls prog 28 [.int .i64, .bool] [.sv a_2 4 es_2 c_2, .dg 9 x_1, .sv a_3 0 es_3 c_3] N22 (fun n_3 b_1
 N23 => N22 ≤ N23 → Br (bne n_3 n_2) (∀ N24, N23 ≤ N24 → Q false N24) (Br (!(b_1 == b)) (∀ N25, N23 ≤ N25 → Q false N25) (∀ N26, N23 ≤ N26 → ACalls
 prog 14 [.sl 4] [.sv a0 4 e0 c0] N26 (fun a_4 es_4 c_4 N27 => N26 ≤ N27 → Bel N27 (D.sl a_4 4 es_4 c_4) → ∀ N28, N27 ≤ N28 → ACalls prog 17 [.bool] [.sv
 a_2 4 es_2 c_2, .sv a_4 4 es_4 c_4] N28 (fun b_2 N29 => N28 ≤ N29 → Br (!b_2) (∀ N30, N29 ≤ N30 → Q false N30) (∀ N31, N29 ≤ N31 → ACalls prog 15 [.ag
 9] [.dg 9 x1] N31 (fun x_2 N32 => N31 ≤ N32 → Bel N32 x_2 → ∀ N33, N32 ≤ N33 → ACalls prog 18 [.bool] [.dg 9 x_1, .dg 9 x_2] N33 (fun b_3 N34 => N33 ≤
 N34 → Br (!b_3) (∀ N35, N34 ≤ N35 → Q false N35) (∀ N36, N34 ≤ N36 → ACalls prog 27 [.sl 0] [.sv a2 0 e2 c2] N36 (fun a_5 es_5 c_5 N37 => N36 ≤ N37 →
 Bel N37 (D.sl a_5 0 es_5 c_5) → ∀ N38, N37 ≤ N38 → ACalls prog 29 [.bool] [.sv a_3 0 es_3 c_3, .sv a_5 0 es_5 c_5] N38 (fun b_4 N39 => N38 ≤ N39 → Br (!b_4)
 (∀ N40, N39 ≤ N40 → Q false N40) (∀ N41, N39 ≤ N41 → Q true N41))))))))))))))))))))))))) : ACalls prog 5 [.bool] [PV.sv a0 4 e0 c0, PV.dg 9 x1, PV.sv a2 0 e2 c2] N Q :=
  eE (H := H_laws_FnExactEvalBody) (by kernel_rfl) (by kernel_rfl) h
theorem l_laws_toIntS_3 (Q : QT [.sl 0]) (N0 : Nat) (a0 : Option Addr) (e0 : List D) (c0 m3 c3 : Nat) (n4 : Int) (r0 : List D) (q0 : Nat) (N : Nat) (h :
Br (decide (n4 < (e0.length : Int))) ((0 ≤ n4 ∧ n4 < (e0.length : Int)) ∧ ∃ n : Int, List.getD e0 n4.toNat default = D.lit (.int .i64 n) ∧ (0 ≤ n4 ∧ n4 < (m3 : Int)
 ∧ (0 + n4.toNat : Nat) < r0.length) ∧ (0 + n4.toNat : Nat) < r0.length ∧ L_laws_toIntS_3 Q N0 a0 e0 c0 m3 c3 (IntKind.i64.wrap (n4 + 1)) (List.set r0 (0 + n4.toNat
 : Nat) (D.lit (.int .i64 n))) q0 N) ((m3 = r0.length ∧ c3 = q0) ∧ (m3 = r0.length ∧ c3 = q0) ∧ (m3 = r0.length ∧ c3 = q0) ∧ ∀ a N1, N ≤ N1 → Fresh N0 N1 a [D.ag
 r0] → ∀ N2, N1 ≤ N2 → Q a r0 q0 N2)) : L_laws_toIntS_3 Q N0 a0 e0 c0 m3 c3 n4 r0 q0 N :=
  hE (H := H_laws_toIntS) (by kernel_rfl) h
theorem l_laws_eqIntS_4 (Q : QT [.bool]) (N0 : Nat) (a0 : Option Addr) (e0 : List D) (c0 : Nat) (a1 : Option Addr) (e1 : List D) (c1 : Nat) (n5 : Int) (N : Nat) (h :
Br (decide (n5 < (e0.length : Int))) ((0 ≤ n5 ∧ n5 < (e0.length : Int)) ∧ ∃ n : Int, List.getD e0 n5.toNat default = D.lit (.int .i64 n) ∧ (0 ≤ n5 ∧ n5 < (e1.length
 : Int)) ∧ ∃ n_1 : Int, List.getD e1 n5.toNat default = D.lit (.int .i64 n_1) ∧ Br (bne n n_1) (∀ N1, N ≤ N1 → Q false N1) (L_laws_eqIntS_4 Q N0 a0 e0 c0 a1 e1
 c1 (IntKind.i64.wrap (n5 + 1)) N)) (∀ N2, N ≤ N2 → Q true N2)) : L_laws_eqIntS_4 Q N0 a0 e0 c0 a1 e1 c1 n5 N :=
  hE (H := H_laws_eqIntS) (by kernel_rfl) h
theorem l_spec_l15Eval_4 (Q : QT [.int .i64]) (N0 : Nat) (a1 : Option Addr) (e1 : List D) (c1 : Nat) (n5 : Int) (y0 : D) (N : Nat) (h :
Br (decide (n5 ≥ 0)) ((0 ≤ n5 ∧ n5 < (e1.length : Int)) ∧ ∃ s, (if 0 = 0 then D.cell (List.getD e1 n5.toNat default) 0 else D.sub (List.getD e1 n5.toNat default)
 0 0) = D.lit (.string s) ∧ ∃ s_1, (y0.cell 1) = D.lit (.string s_1) ∧ Br (ByteArray.toList s == ByteArray.toList s_1) ((0 ≤ n5 ∧ n5 < (e1.length : Int)) ∧ ∃ n :
 Int, (if 0 = 0 then D.cell (List.getD e1 n5.toNat default) 1 else D.sub (List.getD e1 n5.toNat default) 1 0) = D.lit (.int .i64 n) ∧ ∀ N1, N ≤ N1 → Q n N1) (L_spec_l15Eval_4
 Q N0 a1 e1 c1 (IntKind.i64.wrap (n5 - 1)) y0 N)) (∃ n_1 : Int, (y0.cell 3) = D.lit (.int .i64 n_1) ∧ ∀ N2, N ≤ N2 → Q n_1 N2)) : L_spec_l15Eval_4 Q N0 a1 e1 c1 n5 y0 N :=
  hE (H := H_spec_l15Eval) (by kernel_rfl) h
theorem l_spec_EvalBody_6 (Q : QT [.int .i64, .bool]) (N0 : Nat) (a0 : Option Addr) (e0 : List D) (c0 : Nat) (a2 : Option Addr) (e2 : List D) (c2 m10 c10 : Nat) (n11 : Int) (y0 : D) (r1 : List D) (q1 : Nat) (N : Nat) (h :
Br (decide (n11 < (e0.length : Int))) ((0 ≤ n11 ∧ n11 < (e0.length : Int)) ∧ (0 ≤ n11 ∧ n11 < (e2.length : Int)) ∧ ∃ n : Int, List.getD e2 n11.toNat default = D.lit
 (.int .i64 n) ∧ ∀ N1, N ≤ N1 → ACalls prog 63 [.bool] [.dg 2 (if 2 = 0 then D.cell (List.getD e0 n11.toNat default) 1 else D.sub (List.getD e0 n11.toNat default)
 1 2), .int .i64 n] N1 (fun b N2 => N1 ≤ N2 → Br (!b) (∀ N3, N2 ≤ N3 → Q 0 false N3) ((0 ≤ n11 ∧ n11 < (e0.length : Int)) ∧ ∃ s, (if 0 = 0 then D.cell (List.getD
 e0 n11.toNat default) 0 else D.sub (List.getD e0 n11.toNat default) 0 0) = D.lit (.string s) ∧ (0 ≤ n11 ∧ n11 < (e2.length : Int)) ∧ ∃ n_1 : Int, List.getD e2 n11.toNat
 default = D.lit (.int .i64 n_1) ∧ (m10 = r1.length ∧ c10 = q1) ∧ apBound r1 [D.ag [D.lit (.string s), D.lit (.int .i64 n_1)]] 24 ∧ ∀ (c : Nat), L_spec_EvalBody_6
 Q N0 a0 e0 c0 a2 e2 c2 (r1 ++ [D.ag [D.lit (.string s), D.lit (.int .i64 n_1)]]).length c (IntKind.i64.wrap (n11 + 1)) y0 (r1 ++ [D.ag [D.lit (.string s), D.lit
 (.int .i64 n_1)]]) c N2))) ((m10 = r1.length ∧ c10 = q1) ∧ ∀ a, ApA a r1 → Off [a] y0 → ∀ N4, N ≤ N4 → BelA N4 [a] → ACalls prog 64 [.int .i64] [.dg 9 y0, .sv
 a 2 r1 c10] N4 (fun n_2 N5 => N4 ≤ N5 → ∀ N6, N5 ≤ N6 → Q n_2 true N6))) : L_spec_EvalBody_6 Q N0 a0 e0 c0 a2 e2 c2 m10 c10 n11 y0 r1 q1 N :=
  hE (H := H_spec_EvalBody) (by kernel_rfl) h
theorem l_impl_areArgs_4 (Q : QT [.bool]) (N0 : Nat) (a1 : Option Addr) (e1 : List D) (c1 : Nat) (a12 : Option Addr) (e12 : List D) (c12 : Nat) (n13 n14 : Int) (N : Nat) (h :
Br (decide (n14 < n13)) ((0 ≤ n14 ∧ n14 < (e12.length : Int)) ∧ (0 ≤ n14 ∧ n14 < (e1.length : Int)) ∧ ∃ n : Int, List.getD e1 n14.toNat default = D.lit (.int .i64
 n) ∧ ∀ N1, N ≤ N1 → ACalls prog 103 [.bool] [.dg 2 (D.sub (List.getD e12 n14.toNat default) 1 2), .int .i64 n] N1 (fun b N2 => N1 ≤ N2 → Br (!b) (∀ N3, N2
 ≤ N3 → Q false N3) (L_impl_areArgs_4 Q N0 a1 e1 c1 a12 e12 c12 n13 (IntKind.i64.wrap (n14 + 1)) N2))) (∀ N4, N ≤ N4 → Q true N4)) : L_impl_areArgs_4 Q N0 a1 e1 c1 a12 e12 c12 n13 n14 N :=
  hE (H := H_impl_areArgs) (by kernel_rfl) h
theorem l_impl_places_value_13 (Q : QT [.int .i64]) (N0 : Nat) (a0 : Option Addr) (e0 : List D) (c0 m5 c5 : Nat) (a59 : Option Addr) (e59 : List D) (c59 : Nat) (n60 n61 : Int) (y0 : D) (r1 : List D) (q1 : Nat) (N : Nat) (h :
Br (decide (n61 < n60)) ((0 ≤ n61 ∧ n61 < (e59.length : Int)) ∧ ∀ N1, N ≤ N1 → ACalls prog 67 [.int .i64] [.sv a0 3 e0 c0, .dg 9 (List.getD e59 n61.toNat default)]
 N1 (fun n N2 => N1 ≤ N2 → (0 ≤ n61 ∧ n61 < (m5 : Int) ∧ (0 + n61.toNat : Nat) < r1.length) ∧ (0 + n61.toNat : Nat) < r1.length ∧ L_impl_places_value_13 Q N0
 a0 e0 c0 m5 c5 a59 e59 c59 n60 (IntKind.i64.wrap (n61 + 1)) y0 (List.set r1 (0 + n61.toNat : Nat) (D.lit (.int .i64 n))) q1 N2)) (∃ s, (y0.cell 1) = D.lit (.string
 s) ∧ ((0 : Int) ≤ (0 : Int) ∧ 0 < (m5 : Int) ∧ 0 < r1.length) ∧ 0 < r1.length ∧ ∃ n_1 : Int, List.getD r1 0 default = D.lit (.int .i64 n_1) ∧ ((0 : Int) ≤ (1 : Int)
 ∧ 1 < (m5 : Int) ∧ 1 < r1.length) ∧ 1 < r1.length ∧ ∃ n_2 : Int, List.getD r1 1 default = D.lit (.int .i64 n_2) ∧ ∀ N3, N ≤ N3 → ACalls prog 106 [.int .i64, .bool]
 [.str s, .int .i64 n_1, .int .i64 n_2] N3 (fun n_3 b N4 => N3 ≤ N4 → ∀ N5, N4 ≤ N5 → Q n_3 N5))) : L_impl_places_value_13 Q N0 a0 e0 c0 m5 c5 a59 e59 c59 n60 n61 y0 r1 q1 N :=
  hE (H := H_impl_places_value) (by kernel_rfl) h
theorem l_impl_EvalBody_6 (Q : QT [.int .i64, .bool]) (N0 : Nat) (a2 : Option Addr) (e2 : List D) (c2 m10 c10 : Nat) (a28 : Option Addr) (e28 : List D) (c28 : Nat) (n29 n30 : Int) (y0 : D) (r1 : List D) (q1 : Nat) (N : Nat) (h :
Br (decide (n30 < n29)) ((0 ≤ n30 ∧ n30 < (e28.length : Int)) ∧ ∃ s, D.cell (List.getD e28 n30.toNat default) 0 = D.lit (.string s) ∧ (0 ≤ n30 ∧ n30 < (e2.length
 : Int)) ∧ ∃ n : Int, List.getD e2 n30.toNat default = D.lit (.int .i64 n) ∧ (m10 = r1.length ∧ c10 = q1) ∧ ∀ a, ApA a r1 → ∀ N1, N ≤ N1 → BelA N1 [a] → ACalls
 prog 66 [.sl 3] [.sv a 3 r1 c10, .dg 3 (D.ag [D.lit (.string s), D.lit (.int .i64 n), D.lit (.bool false)])] N1 (fun a_1 es c N2 => N1 ≤ N2 → Off [a] (D.sl a_1
 3 es c) ∧ (Bel N2 (D.sl a_1 3 es c) → L_impl_EvalBody_6_v1 Q N0 a2 e2 c2 a_1 es c a28 e28 c28 n29 (IntKind.i64.wrap (n30 + 1)) y0 N2))) ((m10 = r1.length ∧ c10
 = q1) ∧ ∀ a_2, ApA a_2 r1 → Off [a_2] y0 → ∀ N3, N ≤ N3 → BelA N3 [a_2] → ACalls prog 67 [.int .i64] [.sv a_2 3 r1 c10, .dg 9 y0] N3 (fun n_1 N4 => N3 ≤ N4
 → ∀ N5, N4 ≤ N5 → Q n_1 true N5))) : L_impl_EvalBody_6 Q N0 a2 e2 c2 m10 c10 a28 e28 c28 n29 n30 y0 r1 q1 N :=
  hE (H := H_impl_EvalBody) (by kernel_rfl) h
theorem l_impl_EvalBody_6_v1 (Q : QT [.int .i64, .bool]) (N0 : Nat) (a2 : Option Addr) (e2 : List D) (c2 : Nat) (a10 : Option Addr) (e10 : List D) (c10 : Nat) (a28 : Option Addr) (e28 : List D) (c28 : Nat) (n29 n30 : Int) (y0 : D) (N : Nat) (h :
Br (decide (n30 < n29)) ((0 ≤ n30 ∧ n30 < (e28.length : Int)) ∧ ∃ s, D.cell (List.getD e28 n30.toNat default) 0 = D.lit (.string s) ∧ (0 ≤ n30 ∧ n30 < (e2.length
 : Int)) ∧ ∃ n : Int, List.getD e2 n30.toNat default = D.lit (.int .i64 n) ∧ ∀ N1, N ≤ N1 → ACalls prog 66 [.sl 3] [.sv a10 3 e10 c10, .dg 3 (D.ag [D.lit (.string
 s), D.lit (.int .i64 n), D.lit (.bool false)])] N1 (fun a es c N2 => N1 ≤ N2 → Bel N2 (D.sl a 3 es c) → L_impl_EvalBody_6_v1 Q N0 a2 e2 c2 a es c a28 e28 c28
 n29 (IntKind.i64.wrap (n30 + 1)) y0 N2)) (∀ N3, N ≤ N3 → ACalls prog 67 [.int .i64] [.sv a10 3 e10 c10, .dg 9 y0] N3 (fun n_1 N4 => N3 ≤ N4 → ∀ N5, N4 ≤
 N5 → Q n_1 true N5))) : L_impl_EvalBody_6_v1 Q N0 a2 e2 c2 a10 e10 c10 a28 e28 c28 n29 n30 y0 N :=
  hE (H := H_impl_EvalBody) (by kernel_rfl) h

end Go.Proofs.YthfoibejlpfhpaaGreat
