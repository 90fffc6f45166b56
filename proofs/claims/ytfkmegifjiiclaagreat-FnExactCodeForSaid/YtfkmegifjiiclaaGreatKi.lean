/- Printed by gen.py: what the functions come to. -/
import Derived.Test.YtfkmegifjiiclaaGreatJh
set_option linter.unusedVariables false
set_option maxRecDepth 100000
namespace Go.Proofs.YtfkmegifjiiclaaGreat
open Go Go.Proofs Go.Proofs.Tryz
def H_impl_within : Hint := ⟨[], [], []⟩
def H_slices_Index__str : Hint := ⟨[hc 2 [0, 1, 7, 8]], [], []⟩
def H_slices_Contains__str : Hint := ⟨[], [], []⟩
def H_impl_IsName : Hint := ⟨[hc 2 [0, 6, 7]], [], []⟩
def H_impl_SizeOfType : Hint := ⟨[hc 3 [3, 7, 8, 9]], [], [(5, hs 5 [ec 2 [14]])]⟩
def H_impl_DepthOfType : Hint := ⟨[hc 3 [3, 7, 8, 9]], [], [(5, hs 5 [ec 2 [14]])]⟩
def H_impl_IsValidType_1 : Hint := ⟨[], [], [(1, [en 0, en 1, eh 2, en 3, en 4, en 5, en 6, en 7, en 8, en 9, en 10, en 11, en 12, en 13, en 14, en 15])]⟩
def H_impl_allTypes_1 : Hint := ⟨[], [], [(1, hs 5 [ec 2 [4]])]⟩
def H_slices_IndexFunc_Type : Hint := ⟨[hc 2 [0, 1, 7, 8]], [], [(4, hs 6 [ec 5 [15]])]⟩
def H_slices_ContainsFunc_Type : Hint := ⟨[], [], []⟩
def H_impl_allTypes : Hint := ⟨[], [], [(1, hs 11 [ec 2 [6]])]⟩
def H_impl_IsValidType : Hint := ⟨[], [], [(1, hs 13 [ec 1 [3], ec 5 [7], ec 10 [12]])]⟩
def H_impl_IsCtx_1 : Hint := ⟨[], [], [(1, hs 17 [ec 7 [9]])]⟩
def H_slices_IndexFunc_Typing : Hint := ⟨[hc 2 [0, 1, 7, 8]], [], [(4, hs 6 [ec 5 [15]])]⟩
def H_slices_ContainsFunc_Typing : Hint := ⟨[], [], []⟩
def H_impl_IsCtx : Hint := ⟨[], [], []⟩
def H_impl_OpArity : Hint := ⟨[], [], []⟩
def H_impl_arity : Hint := ⟨[], [], []⟩
def H_impl_isNumber : Hint := ⟨[], [], []⟩
def H_impl_isNamed : Hint := ⟨[], [], [(12, hs 9 [ec 6 [34]]), (14, hs 26 [ec 18 [56], ec 23 [61]])]⟩
def H_slices_EqualFunc_Type : Hint := ⟨[hc 4 [1, 2, 15, 16, 17]], [], [(7, hs 5 [ec 3 [27, 28]])]⟩
def H_impl_EqualType : Hint := ⟨[], [], []⟩
def H_impl_isForm : Hint := ⟨[], [], [(1, [en 0, en 1, en 2, en 3, ec 4 [7], en 5]), (14, [en 0, en 1, en 2, en 3, en 4, eh 5, en 6, eh 7]), (16, [en 0, en 1, en 2, en 3, en 4, en 5, en 6, en 7, en 8, eh 9, en 10, eh 11, en 12, eh 13, en 14, eh 15]), (17, hs 38 [ec 1 [54], ec 28 [79, 81], ec 35 [86, 88]])]⟩
def H_impl_allTerms_1 : Hint := ⟨[], [], [(1, hs 5 [ec 2 [4]])]⟩
def H_slices_IndexFunc_Term : Hint := ⟨[hc 2 [0, 1, 7, 8]], [], [(4, hs 6 [ec 5 [15]])]⟩
def H_slices_ContainsFunc_Term : Hint := ⟨[], [], []⟩
def H_impl_allTerms : Hint := ⟨[], [], [(1, hs 11 [ec 2 [6]])]⟩
def H_impl_IsTerm : Hint := ⟨[], [], [(1, hs 3 [ec 1 [3]])]⟩
def H_impl_LevelsOk_1 : Hint := ⟨[], [], []⟩
def H_impl_partLevel : Hint := ⟨[], [], []⟩
def H_impl_levels : Hint := ⟨[hc 4 [1, 2, 3, 15, 16, 17]], [], [(1, hs 5 [ec 3 [10]]), (6, [en 0, en 1, en 2, en 4, ec 3 [22], ec 5 [21], en 6])]⟩
def H_impl_LevelsOk : Hint := ⟨[], [], [(1, hs 8 [ec 1 [5], ec 5 [8]])]⟩
def H_impl_formType_1 : Hint := ⟨[], [], [(1, [en 0, en 1, en 2, en 3, en 4, en 5, en 6, ec 7 [11], eh 8])]⟩
def H_impl_counting : Hint := ⟨[hc 2 [0, 1, 5]], [], []⟩
def H_impl_Type_own : Hint := ⟨[hc 3 [2, 3, 10, 11, 12]], [], [(5, [en 0, en 1, en 2, ec 3 [18], en 4, eh 5, en 6, eh 7])]⟩
def H_impl_tyInt : Hint := ⟨[], [], []⟩
def H_impl_tyBool : Hint := ⟨[], [], []⟩
def H_impl_opType : Hint := ⟨[hc 11 [4, 5, 6, 22, 23, 24]], [], [(13, hs 4 [ec 2 [28, 29]])]⟩
def H_slices_Clone_Typing : Hint := ⟨[], [], []⟩
def H_impl_with : Hint := ⟨[], [], []⟩
def H_impl_tyFun : Hint := ⟨[], [], [(1, [en 0, en 2, ec 1 [5], ec 3 [7], en 4, en 5, eh 6])]⟩
def H_impl_tyCode : Hint := ⟨[], [], [(1, hs 5 [ec 1 [3]])]⟩
def H_impl_codeOf : Hint := ⟨[], [], [(3, hs 6 [ec 4 [10]])]⟩
def H_impl_IsBase : Hint := ⟨[], [], []⟩
def H_impl_SafeCtx : Hint := ⟨[hc 3 [0, 1, 5, 9, 10, 11] [(5, 97, 4)]], [], [(5, hs 17 [ec 2 [17]]), (6, [en 0, en 1, en 2, en 3, en 4, en 6, en 7, ec 5 [37], en 8, en 9, eh 10, eh 11])]⟩
def H_impl_stageType : Hint := ⟨[], [], [(3, hs 10 [ec 7 [17]]), (5, hs 3 [ec 1 [24]]), (7, hs 10 [ec 7 [32], ec 8 [35]]), (9, [en 0, en 1, en 3, en 4, en 5, en 6, en 7, eh 2, ec 8 [45], ec 9 [47], eh 10]), (11, hs 9 [ec 6 [55]]), (12, hs 2 [ec 1 [58]]), (13, hs 3 [ec 1 [60]])]⟩
def H_impl_formType : Hint := ⟨[hc 15 [4, 6, 7, 9, 57, 58] [(9, 33, 2)]], [], [(5, [en 0, en 1, en 2, en 3, en 4, en 5, en 6, en 7, en 8, en 9, en 10]), (6, hs 7 [ec 5 [43]]), (22, hs 9 [ec 3 [79, 80], ec 7 [83, 84]]), (27, [en 0, en 1, en 2, en 3, en 4, en 5, en 6, en 7, en 8, ec 9 [102, 103], en 10]), (28, hs 6 [ec 4 [109]]), (31, [en 0, en 1, en 2, en 3, en 4, en 5, en 6, en 7, en 9, en 10, en 11, en 12, en 13, en 15, eh 8, ec 14 [126], eh 16]), (34, hs 5 [ec 3 [134, 135]]), (39, [en 0, en 1, en 2, en 3, en 4, en 5, en 6, en 8, en 9, en 10, en 11, en 12, eh 7, ec 13 [156], eh 14]), (41, hs 7 [ec 4 [162, 164]]), (42, [en 0, en 1, en 2, en 3, en 4, en 5, en 6, en 7, en 8, en 9, en 10, en 11, en 12, en 14, en 15, en 16, en 17, en 18, en 20, eh 13, ec 19 [183], eh 21]), (43, hs 4 [ec 3 [186, 188]]), (46, hs 5 [ec 3 [193]])]⟩
def H_impl_typed : Hint := ⟨[], [], [(1, hs 6 [ec 3 [9]]), (2, hs 3 [ec 1 [12]])]⟩
def H_impl_TypeOf : Hint := ⟨[], [], [(1, hs 9 [ec 6 [13]]), (3, hs 6 [ec 3 [20]]), (4, [en 0, en 1, en 2, en 3, eh 4, en 5])]⟩
def L_slices_Index__str_2 (Q : QT [.int .i64]) (N0 : Nat) (a0 : Option Addr) (e0 : List D) (c0 : Nat) (s1 : ByteArray) (n7 n8 : Int) (N : Nat) : Prop := AT prog 186 [.int .i64] Q N0 .ord (loopAt prog 186 2) ⟨.sv a0 0 e0 c0 :: .str s1 :: an 5 (.int .i64 n7 :: .int .i64 n8 :: an 10 []), [], N, none⟩
def L_impl_IsName_2 (Q : QT [.bool]) (N0 : Nat) (s0 : ByteArray) (n6 n7 : Int) (N : Nat) : Prop := AT prog 143 [.bool] Q N0 .ord (loopAt prog 143 2) ⟨.str s0 :: an 5 (.int .i64 n6 :: .int .i64 n7 :: an 40 []), [], N, none⟩
def L_impl_SizeOfType_3 (Q : QT [.int .i64]) (N0 : Nat) (n3 : Int) (a7 : Option Addr) (e7 : List D) (c7 : Nat) (n8 n9 : Int) (N : Nat) : Prop := AT prog 206 [.int .i64] Q N0 .ord (loopAt prog 206 3) ⟨an 3 (.int .i64 n3 :: an 3 (.sv a7 2 e7 c7 :: .int .i64 n8 :: .int .i64 n9 :: an 9 [])), [], N, none⟩
def L_impl_DepthOfType_3 (Q : QT [.int .i64]) (N0 : Nat) (n3 : Int) (a7 : Option Addr) (e7 : List D) (c7 : Nat) (n8 n9 : Int) (N : Nat) : Prop := AT prog 207 [.int .i64] Q N0 .ord (loopAt prog 207 3) ⟨an 3 (.int .i64 n3 :: an 3 (.sv a7 2 e7 c7 :: .int .i64 n8 :: .int .i64 n9 :: an 10 [])), [], N, none⟩
def L_impl_counting_2 (Q : QT [.int .i64]) (N0 : Nat) (a0 : Option Addr) (e0 : List D) (c0 : Nat) (s1 : ByteArray) (n5 : Int) (N : Nat) : Prop := AT prog 200 [.int .i64] Q N0 .ord (loopAt prog 200 2) ⟨.sv a0 4 e0 c0 :: .str s1 :: an 3 (.int .i64 n5 :: an 15 []), [], N, none⟩
def L_impl_Type_own_3 (Q : QT [.ag 2]) (N0 : Nat) (a10 : Option Addr) (e10 : List D) (c10 : Nat) (n11 n12 n0_0 : Int) (a0_1 : Option Addr) (e0_1 : List D) (c0_1 : Nat) (n1_0 : Int) (a1_1 : Option Addr) (e1_1 : List D) (c1_1 : Nat) (N : Nat) : Prop := AT prog 111 [.ag 2] Q N0 .ord (loopAt prog 111 3) ⟨an 2 (.pb 0 0 0 0 :: .pb 1 0 0 0 :: an 6 (.sv a10 2 e10 c10 :: .int .i64 n11 :: .int .i64 n12 :: an 12 [])), [.var [.int .i64 n0_0, .sv a0_1 2 e0_1 c0_1], .var [.int .i64 n1_0, .sv a1_1 2 e1_1 c1_1]], N, none⟩
def L_impl_opType_11 (Q : QT [.ag 2]) (N0 : Nat) (a22 : Option Addr) (e22 : List D) (c22 : Nat) (n23 n24 n0_0 : Int) (a0_1 : Option Addr) (e0_1 : List D) (c0_1 : Nat) (y1 y2 : D) (N : Nat) : Prop := AT prog 203 [.ag 2] Q N0 .ord (loopAt prog 203 11) ⟨an 4 (.pb 0 0 0 0 :: .pb 1 0 0 0 :: .pb 2 0 0 0 :: an 15 (.sv a22 2 e22 c22 :: .int .i64 n23 :: .int .i64 n24 :: an 10 [])), [.var [.int .i64 n0_0, .sv a0_1 2 e0_1 c0_1], .vd y1 2, .vd y2 2], N, none⟩
def L_impl_SafeCtx_3 (Q : QT [.sl 4]) (N0 : Nat) (a0 : Option Addr) (e0 : List D) (c0 : Nat) (n1 : Int) (m5 c5 : Nat) (a9 : Option Addr) (e9 : List D) (c9 : Nat) (n10 n11 : Int) (r0 : List D) (q0 : Nat) (N : Nat) : Prop := AT prog 234 [.sl 4] Q N0 .ord (loopAt prog 234 3) ⟨.sv a0 4 e0 c0 :: .int .i64 n1 :: an 3 (.sb 0 4 0 m5 c5 :: an 3 (.sv a9 4 e9 c9 :: .int .i64 n10 :: .int .i64 n11 :: an 34 [])), [.arr 97 4 r0 q0], N, none⟩
def L_impl_formType_15 (Q : QT [.ag 2]) (N0 : Nat) (m9 c9 : Nat) (n57 n58 : Int) (y0 : D) (n1_0 : Int) (a1_1 : Option Addr) (e1_1 : List D) (c1_1 : Nat) (a2_0 : Option Addr) (e2_0 : List D) (c2_0 : Nat) (n3_0 : Int) (r4 : List D) (q4 : Nat) (N : Nat) : Prop := AT prog 160 [.ag 2] Q N0 .ord (loopAt prog 160 15) ⟨an 4 (.pb 0 0 0 0 :: an 1 (.pb 1 0 0 0 :: .fn 199 [.pb 2 0 0 0, .pb 0 0 0 0, .pb 3 0 0 0] :: an 1 (.sb 4 2 0 m9 c9 :: an 47 (.int .i64 n57 :: .int .i64 n58 :: an 137 [])))), [.vd y0 9, .var [.int .i64 n1_0, .sv a1_1 2 e1_1 c1_1], .var [.sv a2_0 4 e2_0 c2_0], .var [.int .i64 n3_0], .arr 33 2 r4 q4], N, none⟩
def L_slices_EqualFunc_Type_4 (Q : QT [.bool]) (N0 : Nat) (a1 : Option Addr) (e1 : List D) (c1 : Nat) (a15 : Option Addr) (e15 : List D) (c15 : Nat) (n16 n17 : Int) (N : Nat) : Prop := AT prog 171 [.bool] Q N0 .ord (loopAt prog 171 4) ⟨an 1 (.sv a1 2 e1 c1 :: .fn 130 [] :: an 12 (.sv a15 2 e15 c15 :: .int .i64 n16 :: .int .i64 n17 :: an 14 [])), [], N, none⟩
def L_impl_levels_4 (Q : QT [.bool]) (N0 : Nat) (n1 : Int) (a15 : Option Addr) (e15 : List D) (c15 : Nat) (n16 n17 : Int) (y0 : D) (N : Nat) : Prop := AT prog 190 [.bool] Q N0 .ord (loopAt prog 190 4) ⟨an 1 (.int .i64 n1 :: .fn 191 [] :: .pb 0 0 0 0 :: an 11 (.sv a15 9 e15 c15 :: .int .i64 n16 :: .int .i64 n17 :: an 11 [])), [.vd y0 9], N, none⟩
def L_impl_Type_own_3_v1 (Q : QT [.ag 2]) (N0 : Nat) (a10 : Option Addr) (e10 : List D) (c10 : Nat) (n11 n12 n0_0 : Int) (a0_1 : Option Addr) (e0_1 : List D) (c0_1 : Nat) (n1_0 : Int) (m1_1 c1_1 : Nat) (r2 : List D) (q2 : Nat) (N : Nat) : Prop := AT prog 111 [.ag 2] Q N0 .ord (loopAt prog 111 3) ⟨an 2 (.pb 0 0 0 0 :: .pb 1 0 0 0 :: an 6 (.sv a10 2 e10 c10 :: .int .i64 n11 :: .int .i64 n12 :: an 12 [])), [.var [.int .i64 n0_0, .sv a0_1 2 e0_1 c0_1], .var [.int .i64 n1_0, .sb 2 2 0 m1_1 c1_1], .arr 33 2 r2 q2], N, none⟩
def L_slices_IndexFunc_Typing_2 (Q : QT [.int .i64]) (N0 : Nat) (a0 : Option Addr) (e0 : List D) (c0 : Nat) (n7 n8 : Int) (N : Nat) : Prop := AT prog 229 [.int .i64] Q N0 .ord (loopAt prog 229 2) ⟨.sv a0 4 e0 c0 :: .fn 189 [] :: an 5 (.int .i64 n7 :: .int .i64 n8 :: an 10 []), [], N, none⟩
def L_slices_IndexFunc_Type_2 (Q : QT [.int .i64]) (N0 : Nat) (a0 : Option Addr) (e0 : List D) (c0 : Nat) (a1_0 : Addr) (n7 n8 : Int) (N : Nat) : Prop := AT prog 240 [.int .i64] Q N0 .ord (loopAt prog 240 2) ⟨.sv a0 2 e0 c0 :: .fn 236 [.pd a1_0 0 (.fn 209 [])] :: an 5 (.int .i64 n7 :: .int .i64 n8 :: an 10 []), [], N, none⟩
def L_slices_IndexFunc_Term_2 (Q : QT [.int .i64]) (N0 : Nat) (a0 : Option Addr) (e0 : List D) (c0 : Nat) (a1_0 : Addr) (n7 n8 : Int) (N : Nat) : Prop := AT prog 132 [.int .i64] Q N0 .ord (loopAt prog 132 2) ⟨.sv a0 9 e0 c0 :: .fn 142 [.pd a1_0 0 (.fn 187 [])] :: an 5 (.int .i64 n7 :: .int .i64 n8 :: an 10 []), [], N, none⟩
theorem w_impl_within (N : Nat) (n0 n1 n2 : Int) (Q : QT [.bool]) (h :
Br (decide (n1 ≤ n0)) (∀ N1, N ≤ N1 → Q (decide (n0 ≤ n2)) N1) (∀ N2, N ≤ N2 → Q false N2)) : ACalls prog 97 [.bool] [PV.int .i64 n0, PV.int .i64 n1, PV.int .i64 n2] N Q :=
 eE (H := H_impl_within) (by kernel_rfl) (by kernel_rfl) h
theorem w_slices_Index__str (N : Nat) (a0 : Option Addr) (e0 : List D) (c0 : Nat) (s1 : ByteArray) (Q : QT [.int .i64]) (h :
Bel N (D.sl a0 0 e0 c0) → L_slices_Index__str_2 Q N a0 e0 c0 s1 (e0.length : Int) 0 N) : ACalls prog 186 [.int .i64] [PV.sv a0 0 e0 c0, PV.str s1] N Q :=
 eE (H := H_slices_Index__str) (by kernel_rfl) (by kernel_rfl) h
theorem w_slices_Contains__str (N : Nat) (a0 : Option Addr) (e0 : List D) (c0 : Nat) (s1 : ByteArray) (Q : QT [.bool]) (h :
Bel N (D.sl a0 0 e0 c0) → ∀ N1, N ≤ N1 → ACalls prog 186 [.int .i64] [.sv a0 0 e0 c0, .str s1] N1 (fun n N2 => N1 ≤ N2 → ∀ N3, N2 ≤ N3 → Q (decide (n ≥
 0)) N3)) : ACalls prog 169 [.bool] [PV.sv a0 0 e0 c0, PV.str s1] N Q :=
  eE (H := H_slices_Contains__str) (by kernel_rfl) (by kernel_rfl) h
theorem w_impl_IsName (N : Nat) (s0 : ByteArray) (Q : QT [.bool]) (h :
L_impl_IsName_2 Q N s0 (s0.size : Int) 0 N) : ACalls prog 143 [.bool] [PV.str s0] N Q :=
 eE (H := H_impl_IsName) (by kernel_rfl) (by kernel_rfl) h
theorem w_impl_SizeOfType (N : Nat) (x0 : D) (Q : QT [.int .i64]) (h :
Bel N x0 → ∃ a es, ∃ c : Nat, (x0.cell 1) = D.sl a 2 es c ∧ L_impl_SizeOfType_3 Q N 1 a es c (es.length : Int) 0 N) : ACalls prog 206 [.int .i64] [PV.dg 2 x0] N Q :=
 eE (H := H_impl_SizeOfType) (by kernel_rfl) (by kernel_rfl) h
theorem w_impl_DepthOfType (N : Nat) (x0 : D) (Q : QT [.int .i64]) (h :
Bel N x0 → ∃ a es, ∃ c : Nat, (x0.cell 1) = D.sl a 2 es c ∧ L_impl_DepthOfType_3 Q N 0 a es c (es.length : Int) 0 N) : ACalls prog 207 [.int .i64] [PV.dg 2 x0] N Q :=
 eE (H := H_impl_DepthOfType) (by kernel_rfl) (by kernel_rfl) h
theorem w_impl_IsValidType_1 (N : Nat) (x0 : D) (Q : QT [.bool]) (h :
Bel N x0 → ∃ n : Int, (x0.cell 0) = D.lit (.int .i64 n) ∧ ∀ N1, N ≤ N1 → ACalls prog 97 [.bool] [.int .i64 n, .int .i64 1, .int .i64 4] N1 (fun b N2 => N1 ≤
 N2 → Br b (∃ a es, ∃ c : Nat, (x0.cell 1) = D.sl a 2 es c ∧ ∃ n_1 : Int, (x0.cell 0) = D.lit (.int .i64 n_1) ∧ (0 ≤ IntKind.i64.wrap (n_1 - 1) ∧ IntKind.i64.wrap
 (n_1 - 1) < 4 ∧ (0 + (IntKind.i64.wrap (n_1 - 1)).toNat : Nat) < 4) ∧ (0 + (IntKind.i64.wrap (n_1 - 1)).toNat : Nat) < 4 ∧ ∃ n_2 : Int, List.getD [D.lit (.int .i64
 0), D.lit (.int .i64 0), D.lit (.int .i64 2), D.lit (.int .i64 1)] (0 + (IntKind.i64.wrap (n_1 - 1)).toNat : Nat) default = D.lit (.int .i64 n_2) ∧ ∀ N3, N2 ≤
 N3 → Q ((es.length : Int) == n_2) N3) (∀ N4, N2 ≤ N4 → Q false N4))) : ACalls prog 209 [.bool] [PV.dg 2 x0] N Q :=
  eE (H := H_impl_IsValidType_1) (by kernel_rfl) (by kernel_rfl) h
theorem w_impl_IsValidType (N : Nat) (x0 : D) (Q : QT [.bool]) (h :
Bel N x0 → ∀ N1, N ≤ N1 → ACalls prog 206 [.int .i64] [.dg 2 x0] N1 (fun n N2 => N1 ≤ N2 → Br (decide (n ≤ 30)) (∀ N3, N2 ≤ N3 → ACalls prog 207 [.int .i64]
 [.dg 2 x0] N3 (fun n_1 N4 => N3 ≤ N4 → Br (decide (n_1 ≤ 8)) (∀ N5, N4 ≤ N5 → ACalls prog 208 [.bool] [.dg 2 x0, .fn 209 []] N5 (fun b N6 => N5 ≤ N6 →
 ∀ N7, N6 ≤ N7 → Q b N7)) (∀ N8, N4 ≤ N8 → Q false N8))) (∀ N9, N2 ≤ N9 → Q false N9))) : ACalls prog 161 [.bool] [PV.dg 2 x0] N Q :=
  eE (H := H_impl_IsValidType) (by kernel_rfl) (by kernel_rfl) h
theorem w_impl_IsCtx_1 (N : Nat) (x0 : D) (Q : QT [.bool]) (h :
Bel N x0 → ∃ s, (x0.cell 0) = D.lit (.string s) ∧ ∀ N1, N ≤ N1 → ACalls prog 143 [.bool] [.str s] N1 (fun b N2 => N1 ≤ N2 → Br (!b) (∀ N3, N2 ≤ N3 → Q true
 N3) (∀ N4, N2 ≤ N4 → ACalls prog 161 [.bool] [.dg 2 (D.sub x0 1 2)] N4 (fun b_1 N5 => N4 ≤ N5 → Br (!b_1) (∀ N6, N5 ≤ N6 → Q true N6) (∃ n : Int, (x0.cell
 3) = D.lit (.int .i64 n) ∧ ∀ N7, N5 ≤ N7 → ACalls prog 97 [.bool] [.int .i64 n, .int .i64 0, .int .i64 2] N7 (fun b_2 N8 => N7 ≤ N8 → ∀ N9, N8 ≤ N9 → Q
 (!b_2) N9)))))) : ACalls prog 189 [.bool] [PV.dg 4 x0] N Q :=
  eE (H := H_impl_IsCtx_1) (by kernel_rfl) (by kernel_rfl) h
theorem w_impl_IsCtx (N : Nat) (a0 : Option Addr) (e0 : List D) (c0 : Nat) (Q : QT [.bool]) (h :
Bel N (D.sl a0 4 e0 c0) → Br (decide ((e0.length : Int) ≤ 12)) (∀ N1, N ≤ N1 → ACalls prog 188 [.bool] [.sv a0 4 e0 c0, .fn 189 []] N1 (fun b N2 => N1 ≤ N2
 → ∀ N3, N2 ≤ N3 → Q (!b) N3)) (∀ N4, N ≤ N4 → Q false N4)) : ACalls prog 148 [.bool] [PV.sv a0 4 e0 c0] N Q :=
  eE (H := H_impl_IsCtx) (by kernel_rfl) (by kernel_rfl) h
theorem w_impl_OpArity (N : Nat) (s0 : ByteArray) (Q : QT [.int .i64]) (h :
Br (ByteArray.toList s0 == ByteArray.toList (bytes [43])) (∀ N1, N ≤ N1 → Q 2 N1) (Br (ByteArray.toList s0 == ByteArray.toList (bytes [45])) (∀ N2, N ≤ N2 →
 Q 2 N2) (Br (ByteArray.toList s0 == ByteArray.toList (bytes [42])) (∀ N3, N ≤ N3 → Q 2 N3) (Br (ByteArray.toList s0 == ByteArray.toList (bytes [61])) (∀ N4,
 N ≤ N4 → Q 2 N4) (Br (ByteArray.toList s0 == ByteArray.toList (bytes [60])) (∀ N5, N ≤ N5 → Q 2 N5) (Br (ByteArray.toList s0 == ByteArray.toList (bytes [38]))
 (∀ N6, N ≤ N6 → Q 2 N6) (Br (ByteArray.toList s0 == ByteArray.toList (bytes [124])) (∀ N7, N ≤ N7 → Q 2 N7) (Br (ByteArray.toList s0 == ByteArray.toList (bytes
 [33])) (∀ N8, N ≤ N8 → Q 1 N8) (∀ N9, N ≤ N9 → Q 0 N9))))))))) : ACalls prog 239 [.int .i64] [PV.str s0] N Q :=
  eE (H := H_impl_OpArity) (by kernel_rfl) (by kernel_rfl) h
theorem w_impl_arity (N : Nat) (x0 : D) (Q : QT [.int .i64]) (h :
Bel N x0 → ∃ n : Int, (x0.cell 0) = D.lit (.int .i64 n) ∧ Br (n == 4) (∃ s, (x0.cell 1) = D.lit (.string s) ∧ ∀ N1, N ≤ N1 → ACalls prog 239 [.int .i64] [.str
 s] N1 (fun n_1 N2 => N1 ≤ N2 → ∀ N3, N2 ≤ N3 → Q n_1 N3)) (Br (n == 5) (∀ N4, N ≤ N4 → Q 3 N4) (Br (n == 7) (∀ N5, N ≤ N5 → Q 2 N5) (Br (n == 8) (∀
 N6, N ≤ N6 → Q 2 N6) (Br (n == 6) (∀ N7, N ≤ N7 → Q 1 N7) (Br (n == 9) (∀ N8, N ≤ N8 → Q 1 N8) (Br (n == 10) (∀ N9, N ≤ N9 → Q 1 N9) (Br (n == 11) (∀
 N10, N ≤ N10 → Q 1 N10) (Br (n == 12) (∀ N11, N ≤ N11 → Q 1 N11) (Br (n == 13) (∀ N12, N ≤ N12 → Q 1 N12) (∀ N13, N ≤ N13 → Q 0 N13))))))))))) : ACalls prog 227 [.int .i64] [PV.dg 9 x0] N Q :=
  eE (H := H_impl_arity) (by kernel_rfl) (by kernel_rfl) h
theorem w_impl_isNumber (N : Nat) (n0 : Int) (Q : QT [.bool]) (h :
∀ N1, N ≤ N1 → ACalls prog 97 [.bool] [.int .i64 n0, .int .i64 0, .int .i64 10006] N1 (fun b N2 => N1 ≤ N2 → ∀ N3, N2 ≤ N3 → Q b N3)) : ACalls prog 158 [.bool] [PV.int .i64 n0] N Q :=
  eE (H := H_impl_isNumber) (by kernel_rfl) (by kernel_rfl) h
theorem w_impl_isNamed (N : Nat) (x0 : D) (Q : QT [.bool]) (h :
Bel N x0 → ∃ n : Int, (x0.cell 0) = D.lit (.int .i64 n) ∧ Br (n == 1) (∃ s, (x0.cell 1) = D.lit (.string s) ∧ ∀ N1, N ≤ N1 → ACalls prog 143 [.bool] [.str s] N1
 (fun b N2 => N1 ≤ N2 → ∀ N3, N2 ≤ N3 → Q b N3)) (Br (n == 8) (∃ s_1, (x0.cell 1) = D.lit (.string s_1) ∧ ∀ N4, N ≤ N4 → ACalls prog 143 [.bool] [.str s_1]
 N4 (fun b_1 N5 => N4 ≤ N5 → ∀ N6, N5 ≤ N6 → Q b_1 N6)) (Br (n == 2) (∃ n_1 : Int, (x0.cell 3) = D.lit (.int .i64 n_1) ∧ ∀ N7, N ≤ N7 → ACalls prog 158
 [.bool] [.int .i64 n_1] N7 (fun b_2 N8 => N7 ≤ N8 → ∀ N9, N8 ≤ N9 → Q b_2 N9)) (Br (n == 3) (∃ n_2 : Int, (x0.cell 3) = D.lit (.int .i64 n_2) ∧ ∀ N10, N
 ≤ N10 → ACalls prog 97 [.bool] [.int .i64 n_2, .int .i64 0, .int .i64 1] N10 (fun b_3 N11 => N10 ≤ N11 → ∀ N12, N11 ≤ N12 → Q b_3 N12)) (Br (n == 4) (∃
 s_2, (x0.cell 1) = D.lit (.string s_2) ∧ ∀ N13, N ≤ N13 → ACalls prog 239 [.int .i64] [.str s_2] N13 (fun n_3 N14 => N13 ≤ N14 → ∀ N15, N14 ≤ N15 → Q (decide
 (n_3 > 0)) N15)) (Br (n == 6) (∃ s_3, (x0.cell 1) = D.lit (.string s_3) ∧ ∀ N16, N ≤ N16 → ACalls prog 143 [.bool] [.str s_3] N16 (fun b_4 N17 => N16 ≤ N17
 → Br b_4 (∀ N18, N17 ≤ N18 → ACalls prog 161 [.bool] [.dg 2 (D.sub x0 4 2)] N18 (fun b_5 N19 => N18 ≤ N19 → ∀ N20, N19 ≤ N20 → Q b_5 N20)) (∀ N21, N17
 ≤ N21 → Q false N21))) (Br (n == 9) (∃ s_4, (x0.cell 1) = D.lit (.string s_4) ∧ ∀ N22, N ≤ N22 → ACalls prog 143 [.bool] [.str s_4] N22 (fun b_6 N23 => N22
 ≤ N23 → Br b_6 (∃ s_5, (x0.cell 2) = D.lit (.string s_5) ∧ ∀ N24, N23 ≤ N24 → ACalls prog 143 [.bool] [.str s_5] N24 (fun b_7 N25 => N24 ≤ N25 → Br b_7 (∃
 s_6, (x0.cell 1) = D.lit (.string s_6) ∧ ∃ s_7, (x0.cell 2) = D.lit (.string s_7) ∧ Br (!(ByteArray.toList s_6 == ByteArray.toList s_7)) (∀ N26, N25 ≤ N26 → ACalls
 prog 161 [.bool] [.dg 2 (D.sub x0 4 2)] N26 (fun b_8 N27 => N26 ≤ N27 → Br b_8 (∀ N28, N27 ≤ N28 → ACalls prog 161 [.bool] [.dg 2 (D.sub x0 6 2)] N28 (fun
 b_9 N29 => N28 ≤ N29 → ∀ N30, N29 ≤ N30 → Q b_9 N30)) (∀ N31, N27 ≤ N31 → Q false N31))) (∀ N32, N25 ≤ N32 → Q false N32)) (∀ N33, N25 ≤ N33 →
 Q false N33))) (∀ N34, N23 ≤ N34 → Q false N34))) (∃ n_4 : Int, (x0.cell 0) = D.lit (.int .i64 n_4) ∧ ∀ N35, N ≤ N35 → ACalls prog 97 [.bool] [.int .i64 n_4,
 .int .i64 1, .int .i64 13] N35 (fun b_10 N36 => N35 ≤ N36 → ∀ N37, N36 ≤ N37 → Q b_10 N37))))))))) : ACalls prog 228 [.bool] [PV.dg 9 x0] N Q :=
  eE (H := H_impl_isNamed) (by kernel_rfl) (by kernel_rfl) h
theorem w_impl_EqualType (N : Nat) (x0 x1 : D) (Q : QT [.bool]) (h :
Bel N x0 → Bel N x1 → ∃ n : Int, (x0.cell 0) = D.lit (.int .i64 n) ∧ ∃ n_1 : Int, (x1.cell 0) = D.lit (.int .i64 n_1) ∧ Br (n == n_1) (∃ a es, ∃ c : Nat, (x0.cell
 1) = D.sl a 2 es c ∧ ∃ a_1 es_1, ∃ c_1 : Nat, (x1.cell 1) = D.sl a_1 2 es_1 c_1 ∧ ∀ N1, N ≤ N1 → ACalls prog 171 [.bool] [.sv a 2 es c, .sv a_1 2 es_1 c_1, .fn
 130 []] N1 (fun b N2 => N1 ≤ N2 → ∀ N3, N2 ≤ N3 → Q b N3)) (∀ N4, N ≤ N4 → Q false N4)) : ACalls prog 130 [.bool] [PV.dg 2 x0, PV.dg 2 x1] N Q :=
  eE (H := H_impl_EqualType) (by kernel_rfl) (by kernel_rfl) h
theorem w_impl_isForm (N : Nat) (x0 : D) (Q : QT [.bool]) (h :
Bel N x0 → ∃ a es, ∃ c : Nat, (x0.cell 8) = D.sl a 9 es c ∧ ∀ N1, N ≤ N1 → ACalls prog 227 [.int .i64] [.dg 9 x0] N1 (fun n N2 => N1 ≤ N2 → Br (bne (es.length
 : Int) n) (∀ N3, N2 ≤ N3 → Q false N3) (∃ n_1 : Int, (x0.cell 0) = D.lit (.int .i64 n_1) ∧ ∃ n_2 : Int, (x0.cell 0) = D.lit (.int .i64 n_2) ∧ Br (n_2 == 1) (∃
 s, (x0.cell 1) = D.lit (.string s) ∧ ∀ N4, N2 ≤ N4 → ACalls prog 228 [.bool] [.dg 9 x0] N4 (fun b N5 => N4 ≤ N5 → Br b (∃ s_1, (x0.cell 1) = D.lit (.string
 s_1) ∧ Br (ByteArray.toList s_1 == ByteArray.toList s) (∃ s_2, (x0.cell 2) = D.lit (.string s_2) ∧ Br (ByteArray.toList s_2 == ByteArray.toList (bytes [])) (∃ n_3
 : Int, (x0.cell 3) = D.lit (.int .i64 n_3) ∧ Br (n_3 == 0) (∀ N6, N5 ≤ N6 → ACalls prog 130 [.bool] [.dg 2 (D.sub x0 4 2), .dg 2 (D.ag [D.lit (.int .i64 0), D.sl
 Option.none 2 [] 0])] N6 (fun b_1 N7 => N6 ≤ N7 → Br b_1 (∀ N8, N7 ≤ N8 → ACalls prog 130 [.bool] [.dg 2 (D.sub x0 6 2), .dg 2 (D.ag [D.lit (.int .i64 0),
 D.sl Option.none 2 [] 0])] N8 (fun b_2 N9 => N8 ≤ N9 → ∀ N10, N9 ≤ N10 → Q b_2 N10)) (∀ N11, N7 ≤ N11 → Q false N11))) (∀ N12, N5 ≤ N12 → Q false
 N12)) (∀ N13, N5 ≤ N13 → Q false N13)) (∀ N14, N5 ≤ N14 → Q false N14)) (∀ N15, N5 ≤ N15 → Q false N15))) (Br (n_2 == 8) (∃ s_3, (x0.cell 1) = D.lit
 (.string s_3) ∧ ∀ N16, N2 ≤ N16 → ACalls prog 228 [.bool] [.dg 9 x0] N16 (fun b_3 N17 => N16 ≤ N17 → Br b_3 (∃ s_4, (x0.cell 1) = D.lit (.string s_4) ∧ Br
 (ByteArray.toList s_4 == ByteArray.toList s_3) (∃ s_5, (x0.cell 2) = D.lit (.string s_5) ∧ Br (ByteArray.toList s_5 == ByteArray.toList (bytes [])) (∃ n_4 : Int,
 (x0.cell 3) = D.lit (.int .i64 n_4) ∧ Br (n_4 == 0) (∀ N18, N17 ≤ N18 → ACalls prog 130 [.bool] [.dg 2 (D.sub x0 4 2), .dg 2 (D.ag [D.lit (.int .i64 0), D.sl
 Option.none 2 [] 0])] N18 (fun b_4 N19 => N18 ≤ N19 → Br b_4 (∀ N20, N19 ≤ N20 → ACalls prog 130 [.bool] [.dg 2 (D.sub x0 6 2), .dg 2 (D.ag [D.lit (.int .i64
 0), D.sl Option.none 2 [] 0])] N20 (fun b_5 N21 => N20 ≤ N21 → ∀ N22, N21 ≤ N22 → Q b_5 N22)) (∀ N23, N19 ≤ N23 → Q false N23))) (∀ N24, N17 ≤ N24
 → Q false N24)) (∀ N25, N17 ≤ N25 → Q false N25)) (∀ N26, N17 ≤ N26 → Q false N26)) (∀ N27, N17 ≤ N27 → Q false N27))) (Br (n_2 == 2) (∃ n_5 : Int,
 (x0.cell 3) = D.lit (.int .i64 n_5) ∧ ∀ N28, N2 ≤ N28 → ACalls prog 228 [.bool] [.dg 9 x0] N28 (fun b_6 N29 => N28 ≤ N29 → Br b_6 (∃ s_6, (x0.cell 1) = D.lit
 (.string s_6) ∧ Br (ByteArray.toList s_6 == ByteArray.toList (bytes [])) (∃ s_7, (x0.cell 2) = D.lit (.string s_7) ∧ Br (ByteArray.toList s_7 == ByteArray.toList
 (bytes [])) (∃ n_6 : Int, (x0.cell 3) = D.lit (.int .i64 n_6) ∧ Br (n_6 == n_5) (∀ N30, N29 ≤ N30 → ACalls prog 130 [.bool] [.dg 2 (D.sub x0 4 2), .dg 2 (D.ag
 [D.lit (.int .i64 0), D.sl Option.none 2 [] 0])] N30 (fun b_7 N31 => N30 ≤ N31 → Br b_7 (∀ N32, N31 ≤ N32 → ACalls prog 130 [.bool] [.dg 2 (D.sub x0 6 2),
 .dg 2 (D.ag [D.lit (.int .i64 0), D.sl Option.none 2 [] 0])] N32 (fun b_8 N33 => N32 ≤ N33 → ∀ N34, N33 ≤ N34 → Q b_8 N34)) (∀ N35, N31 ≤ N35 → Q false
 N35))) (∀ N36, N29 ≤ N36 → Q false N36)) (∀ N37, N29 ≤ N37 → Q false N37)) (∀ N38, N29 ≤ N38 → Q false N38)) (∀ N39, N29 ≤ N39 → Q false N39)))
 (Br (n_2 == 3) (∃ n_7 : Int, (x0.cell 3) = D.lit (.int .i64 n_7) ∧ ∀ N40, N2 ≤ N40 → ACalls prog 228 [.bool] [.dg 9 x0] N40 (fun b_9 N41 => N40 ≤ N41 → Br
 b_9 (∃ s_8, (x0.cell 1) = D.lit (.string s_8) ∧ Br (ByteArray.toList s_8 == ByteArray.toList (bytes [])) (∃ s_9, (x0.cell 2) = D.lit (.string s_9) ∧ Br (ByteArray.toList
 s_9 == ByteArray.toList (bytes [])) (∃ n_8 : Int, (x0.cell 3) = D.lit (.int .i64 n_8) ∧ Br (n_8 == n_7) (∀ N42, N41 ≤ N42 → ACalls prog 130 [.bool] [.dg 2 (D.sub
 x0 4 2), .dg 2 (D.ag [D.lit (.int .i64 0), D.sl Option.none 2 [] 0])] N42 (fun b_10 N43 => N42 ≤ N43 → Br b_10 (∀ N44, N43 ≤ N44 → ACalls prog 130 [.bool]
 [.dg 2 (D.sub x0 6 2), .dg 2 (D.ag [D.lit (.int .i64 0), D.sl Option.none 2 [] 0])] N44 (fun b_11 N45 => N44 ≤ N45 → ∀ N46, N45 ≤ N46 → Q b_11 N46)) (∀ N47,
 N43 ≤ N47 → Q false N47))) (∀ N48, N41 ≤ N48 → Q false N48)) (∀ N49, N41 ≤ N49 → Q false N49)) (∀ N50, N41 ≤ N50 → Q false N50)) (∀ N51, N41 ≤ N51
 → Q false N51))) (Br (n_2 == 4) (∃ s_10, (x0.cell 1) = D.lit (.string s_10) ∧ ∀ N52, N2 ≤ N52 → ACalls prog 228 [.bool] [.dg 9 x0] N52 (fun b_12 N53 => N52
 ≤ N53 → Br b_12 (∃ s_11, (x0.cell 1) = D.lit (.string s_11) ∧ Br (ByteArray.toList s_11 == ByteArray.toList s_10) (∃ s_12, (x0.cell 2) = D.lit (.string s_12) ∧
 Br (ByteArray.toList s_12 == ByteArray.toList (bytes [])) (∃ n_9 : Int, (x0.cell 3) = D.lit (.int .i64 n_9) ∧ Br (n_9 == 0) (∀ N54, N53 ≤ N54 → ACalls prog 130
 [.bool] [.dg 2 (D.sub x0 4 2), .dg 2 (D.ag [D.lit (.int .i64 0), D.sl Option.none 2 [] 0])] N54 (fun b_13 N55 => N54 ≤ N55 → Br b_13 (∀ N56, N55 ≤ N56 → ACalls
 prog 130 [.bool] [.dg 2 (D.sub x0 6 2), .dg 2 (D.ag [D.lit (.int .i64 0), D.sl Option.none 2 [] 0])] N56 (fun b_14 N57 => N56 ≤ N57 → ∀ N58, N57 ≤ N58 → Q
 b_14 N58)) (∀ N59, N55 ≤ N59 → Q false N59))) (∀ N60, N53 ≤ N60 → Q false N60)) (∀ N61, N53 ≤ N61 → Q false N61)) (∀ N62, N53 ≤ N62 → Q false N62))
 (∀ N63, N53 ≤ N63 → Q false N63))) (Br (n_2 == 6) (∃ s_13, (x0.cell 1) = D.lit (.string s_13) ∧ ∀ N64, N2 ≤ N64 → ACalls prog 228 [.bool] [.dg 9 x0] N64
 (fun b_15 N65 => N64 ≤ N65 → Br b_15 (∃ s_14, (x0.cell 1) = D.lit (.string s_14) ∧ Br (ByteArray.toList s_14 == ByteArray.toList s_13) (∃ s_15, (x0.cell 2) =
 D.lit (.string s_15) ∧ Br (ByteArray.toList s_15 == ByteArray.toList (bytes [])) (∃ n_10 : Int, (x0.cell 3) = D.lit (.int .i64 n_10) ∧ Br (n_10 == 0) (∀ N66, N65
 ≤ N66 → ACalls prog 130 [.bool] [.dg 2 (D.sub x0 4 2), .dg 2 (D.ag [D.cell (D.sub x0 4 2) 0, D.cell (D.sub x0 4 2) 1])] N66 (fun b_16 N67 => N66 ≤ N67 → Br
 b_16 (∀ N68, N67 ≤ N68 → ACalls prog 130 [.bool] [.dg 2 (D.sub x0 6 2), .dg 2 (D.ag [D.lit (.int .i64 0), D.sl Option.none 2 [] 0])] N68 (fun b_17 N69 => N68
 ≤ N69 → ∀ N70, N69 ≤ N70 → Q b_17 N70)) (∀ N71, N67 ≤ N71 → Q false N71))) (∀ N72, N65 ≤ N72 → Q false N72)) (∀ N73, N65 ≤ N73 → Q false N73)) (∀
 N74, N65 ≤ N74 → Q false N74)) (∀ N75, N65 ≤ N75 → Q false N75))) (Br (n_2 == 9) (∃ s_16, (x0.cell 1) = D.lit (.string s_16) ∧ ∃ s_17, (x0.cell 2) = D.lit
 (.string s_17) ∧ ∀ N76, N2 ≤ N76 → ACalls prog 228 [.bool] [.dg 9 x0] N76 (fun b_18 N77 => N76 ≤ N77 → Br b_18 (∃ s_18, (x0.cell 1) = D.lit (.string s_18)
 ∧ Br (ByteArray.toList s_18 == ByteArray.toList s_16) (∃ s_19, (x0.cell 2) = D.lit (.string s_19) ∧ Br (ByteArray.toList s_19 == ByteArray.toList s_17) (∃ n_11 :
 Int, (x0.cell 3) = D.lit (.int .i64 n_11) ∧ Br (n_11 == 0) (∀ N78, N77 ≤ N78 → ACalls prog 130 [.bool] [.dg 2 (D.sub x0 4 2), .dg 2 (D.ag [D.cell (D.sub x0 4
 2) 0, D.cell (D.sub x0 4 2) 1])] N78 (fun b_19 N79 => N78 ≤ N79 → Br b_19 (∀ N80, N79 ≤ N80 → ACalls prog 130 [.bool] [.dg 2 (D.sub x0 6 2), .dg 2 (D.ag [D.cell
 (D.sub x0 6 2) 0, D.cell (D.sub x0 6 2) 1])] N80 (fun b_20 N81 => N80 ≤ N81 → ∀ N82, N81 ≤ N82 → Q b_20 N82)) (∀ N83, N79 ≤ N83 → Q false N83))) (∀ N84,
 N77 ≤ N84 → Q false N84)) (∀ N85, N77 ≤ N85 → Q false N85)) (∀ N86, N77 ≤ N86 → Q false N86)) (∀ N87, N77 ≤ N87 → Q false N87))) (∀ N88, N2 ≤ N88
 → ACalls prog 228 [.bool] [.dg 9 x0] N88 (fun b_21 N89 => N88 ≤ N89 → Br b_21 (∃ s_20, (x0.cell 1) = D.lit (.string s_20) ∧ Br (ByteArray.toList s_20 == ByteArray.toList
 (bytes [])) (∃ s_21, (x0.cell 2) = D.lit (.string s_21) ∧ Br (ByteArray.toList s_21 == ByteArray.toList (bytes [])) (∃ n_12 : Int, (x0.cell 3) = D.lit (.int .i64
 n_12) ∧ Br (n_12 == 0) (∀ N90, N89 ≤ N90 → ACalls prog 130 [.bool] [.dg 2 (D.sub x0 4 2), .dg 2 (D.ag [D.lit (.int .i64 0), D.sl Option.none 2 [] 0])] N90 (fun
 b_22 N91 => N90 ≤ N91 → Br b_22 (∀ N92, N91 ≤ N92 → ACalls prog 130 [.bool] [.dg 2 (D.sub x0 6 2), .dg 2 (D.ag [D.lit (.int .i64 0), D.sl Option.none 2 []
 0])] N92 (fun b_23 N93 => N92 ≤ N93 → ∀ N94, N93 ≤ N94 → Q b_23 N94)) (∀ N95, N91 ≤ N95 → Q false N95))) (∀ N96, N89 ≤ N96 → Q false N96)) (∀ N97,
 N89 ≤ N97 → Q false N97)) (∀ N98, N89 ≤ N98 → Q false N98)) (∀ N99, N89 ≤ N99 → Q false N99)))))))))))) : ACalls prog 187 [.bool] [PV.dg 9 x0] N Q :=
  eE (H := H_impl_isForm) (by kernel_rfl) (by kernel_rfl) h
theorem w_impl_IsTerm (N : Nat) (x0 : D) (Q : QT [.bool]) (h :
Bel N x0 → ∀ N1, N ≤ N1 → ACalls prog 95 [.bool] [.dg 9 x0, .fn 187 []] N1 (fun b N2 => N1 ≤ N2 → ∀ N3, N2 ≤ N3 → Q b N3)) : ACalls prog 146 [.bool] [PV.dg 9 x0] N Q :=
 eE (H := H_impl_IsTerm) (by kernel_rfl) (by kernel_rfl) h
theorem w_impl_LevelsOk_1 (N : Nat) (x0 : D) (n1 : Int) (Q : QT [.bool]) (h :
Bel N x0 → ∀ N1, N ≤ N1 → ACalls prog 97 [.bool] [.int .i64 n1, .int .i64 0, .int .i64 2] N1 (fun b N2 => N1 ≤ N2 → ∀ N3, N2 ≤ N3 → Q b N3)) : ACalls prog 191 [.bool] [PV.dg 9 x0, PV.int .i64 n1] N Q :=
 eE (H := H_impl_LevelsOk_1) (by kernel_rfl) (by kernel_rfl) h
theorem w_impl_partLevel (N : Nat) (x0 : D) (n1 : Int) (Q : QT [.int .i64]) (h :
Bel N x0 → ∃ n : Int, (x0.cell 0) = D.lit (.int .i64 n) ∧ Br (n == 10) (∀ N1, N ≤ N1 → Q (IntKind.i64.wrap (n1 + 1)) N1) (Br (n == 11) (∀ N2, N ≤ N2 → Q (IntKind.i64.wrap
 (n1 - 1)) N2) (∀ N3, N ≤ N3 → Q n1 N3))) : ACalls prog 230 [.int .i64] [PV.dg 9 x0, PV.int .i64 n1] N Q :=
  eE (H := H_impl_partLevel) (by kernel_rfl) (by kernel_rfl) h
theorem w_impl_LevelsOk (N : Nat) (x0 : D) (n1 : Int) (Q : QT [.bool]) (h :
Bel N x0 → ∀ N1, N ≤ N1 → ACalls prog 146 [.bool] [.dg 9 x0] N1 (fun b N2 => N1 ≤ N2 → Br b (∀ N3, N2 ≤ N3 → ACalls prog 190 [.bool] [.dg 9 x0, .int .i64
 n1, .fn 191 []] N3 (fun b_1 N4 => N3 ≤ N4 → ∀ N5, N4 ≤ N5 → Q b_1 N5)) (∀ N6, N2 ≤ N6 → Q false N6))) : ACalls prog 149 [.bool] [PV.dg 9 x0, PV.int .i64 n1] N Q :=
  eE (H := H_impl_LevelsOk) (by kernel_rfl) (by kernel_rfl) h
theorem w_impl_counting (N : Nat) (a0 : Option Addr) (e0 : List D) (c0 : Nat) (s1 : ByteArray) (Q : QT [.int .i64]) (h :
Bel N (D.sl a0 4 e0 c0) → L_impl_counting_2 Q N a0 e0 c0 s1 (IntKind.i64.wrap ((e0.length : Int) - 1)) N) : ACalls prog 200 [.int .i64] [PV.sv a0 4 e0 c0, PV.str s1] N Q :=
 eE (H := H_impl_counting) (by kernel_rfl) (by kernel_rfl) h
theorem w_impl_Type_own (N : Nat) (x0 : D) (Q : QT [.ag 2]) (h :
Bel N x0 → ∃ n : Int, (x0.cell 0) = D.lit (.int .i64 n) ∧ ∃ a es, ∃ c : Nat, (x0.cell 1) = D.sl a 2 es c ∧ L_impl_Type_own_3 Q N a es c (es.length : Int) 0 0 Option.none
 [] 0 n Option.none [] 0 N) : ACalls prog 111 [.ag 2] [PV.dg 2 x0] N Q :=
  eE (H := H_impl_Type_own) (by kernel_rfl) (by kernel_rfl) h
theorem w_impl_tyInt (N : Nat)  (Q : QT [.ag 2]) (h :
∀ N1, N ≤ N1 → Q (D.ag [D.lit (.int .i64 1), D.sl Option.none 2 [] 0]) N1) : ACalls prog 201 [.ag 2] [] N Q :=
  eE (H := H_impl_tyInt) (by kernel_rfl) (by kernel_rfl) h
theorem w_impl_tyBool (N : Nat)  (Q : QT [.ag 2]) (h :
∀ N1, N ≤ N1 → Q (D.ag [D.lit (.int .i64 2), D.sl Option.none 2 [] 0]) N1) : ACalls prog 202 [.ag 2] [] N Q :=
  eE (H := H_impl_tyBool) (by kernel_rfl) (by kernel_rfl) h
theorem w_impl_opType (N : Nat) (s0 : ByteArray) (a1 : Option Addr) (e1 : List D) (c1 : Nat) (Q : QT [.ag 2]) (h :
Bel N (D.sl a1 2 e1 c1) → ∀ N1, N ≤ N1 → ACalls prog 201 [.ag 2] [] N1 (fun x N2 => N1 ≤ N2 → Bel N2 x → ∀ N3, N2 ≤ N3 → ACalls prog 201 [.ag 2] [] N3
 (fun x_1 N4 => N3 ≤ N4 → Bel N4 x_1 → Br (ByteArray.toList s0 == ByteArray.toList (bytes [61])) (∀ N5, N4 ≤ N5 → ACalls prog 202 [.ag 2] [] N5 (fun x_2 N6
 => N5 ≤ N6 → Bel N6 x_2 → L_impl_opType_11 Q N a1 e1 c1 (e1.length : Int) 0 0 Option.none [] 0 x x_2 N6)) (Br (ByteArray.toList s0 == ByteArray.toList (bytes
 [60])) (∀ N7, N4 ≤ N7 → ACalls prog 202 [.ag 2] [] N7 (fun x_3 N8 => N7 ≤ N8 → Bel N8 x_3 → L_impl_opType_11 Q N a1 e1 c1 (e1.length : Int) 0 0 Option.none
 [] 0 x x_3 N8)) (Br (ByteArray.toList s0 == ByteArray.toList (bytes [38])) (∀ N9, N4 ≤ N9 → ACalls prog 202 [.ag 2] [] N9 (fun x_4 N10 => N9 ≤ N10 → Bel
 N10 x_4 → ∀ N11, N10 ≤ N11 → ACalls prog 202 [.ag 2] [] N11 (fun x_5 N12 => N11 ≤ N12 → Bel N12 x_5 → L_impl_opType_11 Q N a1 e1 c1 (e1.length : Int) 0
 0 Option.none [] 0 x_4 x_5 N12))) (Br (ByteArray.toList s0 == ByteArray.toList (bytes [124])) (∀ N13, N4 ≤ N13 → ACalls prog 202 [.ag 2] [] N13 (fun x_6 N14
 => N13 ≤ N14 → Bel N14 x_6 → ∀ N15, N14 ≤ N15 → ACalls prog 202 [.ag 2] [] N15 (fun x_7 N16 => N15 ≤ N16 → Bel N16 x_7 → L_impl_opType_11 Q N a1 e1 c1
 (e1.length : Int) 0 0 Option.none [] 0 x_6 x_7 N16))) (Br (ByteArray.toList s0 == ByteArray.toList (bytes [33])) (∀ N17, N4 ≤ N17 → ACalls prog 202 [.ag 2] []
 N17 (fun x_8 N18 => N17 ≤ N18 → Bel N18 x_8 → ∀ N19, N18 ≤ N19 → ACalls prog 202 [.ag 2] [] N19 (fun x_9 N20 => N19 ≤ N20 → Bel N20 x_9 → L_impl_opType_11
 Q N a1 e1 c1 (e1.length : Int) 0 0 Option.none [] 0 x_8 x_9 N20))) (L_impl_opType_11 Q N a1 e1 c1 (e1.length : Int) 0 0 Option.none [] 0 x x_1 N4)))))))) : ACalls prog 203 [.ag 2] [PV.str s0, PV.sv a1 2 e1 c1] N Q :=
  eE (H := H_impl_opType) (by kernel_rfl) (by kernel_rfl) h
theorem w_slices_Clone_Typing (N : Nat) (a0 : Option Addr) (e0 : List D) (c0 : Nat) (Q : QT [.row 97 4]) (h :
Bel N (D.sl a0 4 e0 c0) → Br (Option.isNone a0) (∀ N1, N ≤ N1 → Q [] 0 N1) ((0 = 0 ∧ 0 = 0) ∧ apBound [] e0 56 ∧ ∀ (c : Nat), (([] ++ e0).length = ([] ++ e0).length
 ∧ c = c) ∧ ∀ N2, N ≤ N2 → Q ([] ++ e0) c N2)) : ACalls prog 210 [.row 97 4] [PV.sv a0 4 e0 c0] N Q :=
  eE (H := H_slices_Clone_Typing) (by kernel_rfl) (by kernel_rfl) h
theorem w_impl_with (N : Nat) (a0 : Option Addr) (e0 : List D) (c0 : Nat) (a1 : Option Addr) (e1 : List D) (c1 : Nat) (Q : QT [.sl 4]) (h :
Bel N (D.sl a0 4 e0 c0) → Bel N (D.sl a1 4 e1 c1) → ∀ N1, N ≤ N1 → ACalls prog 210 [.row (OfNat.ofNat 97) 4] [.sv a0 4 e0 c0] N1 (fun es c N2 => N1 ≤ N2 →
 Bel N2 (D.ag es) → (es.length = es.length ∧ c = c) ∧ apBound es e1 56 ∧ ∀ (c_1 : Nat), ((es ++ e1).length = (es ++ e1).length ∧ c_1 = c_1) ∧ ((es ++ e1).length
 = (es ++ e1).length ∧ c_1 = c_1) ∧ ∀ a N3, N2 ≤ N3 → Fresh N N3 a [D.ag (es ++ e1)] → ∀ N4, N3 ≤ N4 → Q a (es ++ e1) c_1 N4)) : ACalls prog 162 [.sl 4] [PV.sv a0 4 e0 c0, PV.sv a1 4 e1 c1] N Q :=
  eE (H := H_impl_with) (by kernel_rfl) (by kernel_rfl) h
theorem w_impl_tyFun (N : Nat) (x0 x1 : D) (Q : QT [.ag 2]) (h :
Bel N x0 → Bel N x1 → ∀ N1, N ≤ N1 → ACalls prog 111 [.ag 2] [.dg 2 x0] N1 (fun x N2 => N1 ≤ N2 → Bel N2 x → ∀ N3, N2 ≤ N3 → ACalls prog 111 [.ag 2] [.dg
 2 x1] N3 (fun x_1 N4 => N3 ≤ N4 → Bel N4 x_1 → (2 = ([x, x_1]).length ∧ 2 = 2) ∧ (2 = ([x, x_1]).length ∧ 2 = 2) ∧ (2 = ([x, x_1]).length ∧ 2 = 2) ∧ ∀ a N5,
 N4 ≤ N5 → Fresh N N5 a [D.ag [x, x_1]] → ∀ N6, N5 ≤ N6 → Q (D.ag [D.lit (.int .i64 3), D.sl a 2 [x, x_1] 2]) N6))) : ACalls prog 204 [.ag 2] [PV.dg 2 x0, PV.dg 2 x1] N Q :=
  eE (H := H_impl_tyFun) (by kernel_rfl) (by kernel_rfl) h
theorem w_impl_tyCode (N : Nat) (x0 : D) (Q : QT [.ag 2]) (h :
Bel N x0 → ∀ N1, N ≤ N1 → ACalls prog 111 [.ag 2] [.dg 2 x0] N1 (fun x N2 => N1 ≤ N2 → Bel N2 x → (1 = ([x]).length ∧ 1 = 1) ∧ (1 = ([x]).length ∧ 1 = 1)
 ∧ (1 = ([x]).length ∧ 1 = 1) ∧ ∀ a N3, N2 ≤ N3 → Fresh N N3 a [D.ag [x]] → ∀ N4, N3 ≤ N4 → Q (D.ag [D.lit (.int .i64 4), D.sl a 2 [x] 1]) N4)) : ACalls prog 232 [.ag 2] [PV.dg 2 x0] N Q :=
  eE (H := H_impl_tyCode) (by kernel_rfl) (by kernel_rfl) h
theorem w_impl_codeOf (N : Nat) (x0 : D) (Q : QT [.ag 2]) (h :
Bel N x0 → ∃ n : Int, (x0.cell 0) = D.lit (.int .i64 n) ∧ Br (bne n 4) (∀ N1, N ≤ N1 → Q (D.ag [D.lit (.int .i64 0), D.sl Option.none 2 [] 0]) N1) (∃ a es, ∃
 c : Nat, (x0.cell 1) = D.sl a 2 es c ∧ ((0 : Int) ≤ (0 : Int) ∧ 0 < (es.length : Int)) ∧ ∀ N2, N ≤ N2 → ACalls prog 111 [.ag 2] [.dg 2 (List.getD es 0 default)]
 N2 (fun x N3 => N2 ≤ N3 → Bel N3 x → ∀ N4, N3 ≤ N4 → Q x N4))) : ACalls prog 233 [.ag 2] [PV.dg 2 x0] N Q :=
  eE (H := H_impl_codeOf) (by kernel_rfl) (by kernel_rfl) h
theorem w_impl_IsBase (N : Nat) (x0 : D) (Q : QT [.bool]) (h :
Bel N x0 → ∃ n : Int, (x0.cell 0) = D.lit (.int .i64 n) ∧ ∀ N1, N ≤ N1 → ACalls prog 97 [.bool] [.int .i64 n, .int .i64 1, .int .i64 2] N1 (fun b N2 => N1 ≤
 N2 → Br b (∃ a es, ∃ c : Nat, (x0.cell 1) = D.sl a 2 es c ∧ ∀ N3, N2 ≤ N3 → Q ((es.length : Int) == 0) N3) (∀ N4, N2 ≤ N4 → Q false N4))) : ACalls prog 144 [.bool] [PV.dg 2 x0] N Q :=
  eE (H := H_impl_IsBase) (by kernel_rfl) (by kernel_rfl) h
theorem w_impl_SafeCtx (N : Nat) (a0 : Option Addr) (e0 : List D) (c0 : Nat) (n1 : Int) (Q : QT [.sl 4]) (h :
Bel N (D.sl a0 4 e0 c0) → L_impl_SafeCtx_3 Q N a0 e0 c0 n1 0 0 a0 e0 c0 (e0.length : Int) 0 [] 0 N) : ACalls prog 234 [.sl 4] [PV.sv a0 4 e0 c0, PV.int .i64 n1] N Q :=
 eE (H := H_impl_SafeCtx) (by kernel_rfl) (by kernel_rfl) h
theorem w_impl_stageType (N : Nat) (a0 : Option Addr) (e0 : List D) (c0 : Nat) (x1 : D) (n2 : Int) (Q : QT [.ag 2]) (h :
Bel N (D.sl a0 4 e0 c0) → Bel N x1 → ∃ n : Int, (x1.cell 0) = D.lit (.int .i64 n) ∧ Br (n == 10) (∃ a es, ∃ c : Nat, (x1.cell 8) = D.sl a 9 es c ∧ ((0 : Int) ≤ (0
 : Int) ∧ 0 < (es.length : Int)) ∧ ∀ N1, N ≤ N1 → ACalls prog 120 [.ag 2] [.sv a0 4 e0 c0, .dg 9 (List.getD es 0 default), .int .i64 (IntKind.i64.wrap (n2 + 1))]
 N1 (fun x N2 => N1 ≤ N2 → Bel N2 x → ∃ n_1 : Int, (x.cell 0) = D.lit (.int .i64 n_1) ∧ Br (bne n_1 0) (∀ N3, N2 ≤ N3 → ACalls prog 232 [.ag 2] [.dg 2 x]
 N3 (fun x_1 N4 => N3 ≤ N4 → Bel N4 x_1 → ∀ N5, N4 ≤ N5 → Q x_1 N5)) (∀ N6, N2 ≤ N6 → Q (D.ag [D.lit (.int .i64 0), D.sl Option.none 2 [] 0]) N6))) (Br
 (n == 11) (∃ a_1 es_1, ∃ c_1 : Nat, (x1.cell 8) = D.sl a_1 9 es_1 c_1 ∧ ((0 : Int) ≤ (0 : Int) ∧ 0 < (es_1.length : Int)) ∧ ∀ N7, N ≤ N7 → ACalls prog 120 [.ag
 2] [.sv a0 4 e0 c0, .dg 9 (List.getD es_1 0 default), .int .i64 (IntKind.i64.wrap (n2 - 1))] N7 (fun x_2 N8 => N7 ≤ N8 → Bel N8 x_2 → ∀ N9, N8 ≤ N9 → ACalls
 prog 233 [.ag 2] [.dg 2 x_2] N9 (fun x_3 N10 => N9 ≤ N10 → Bel N10 x_3 → ∀ N11, N10 ≤ N11 → Q x_3 N11))) (Br (n == 12) (∃ a_2 es_2, ∃ c_2 : Nat, (x1.cell
 8) = D.sl a_2 9 es_2 c_2 ∧ ((0 : Int) ≤ (0 : Int) ∧ 0 < (es_2.length : Int)) ∧ ∀ N12, N ≤ N12 → ACalls prog 234 [.sl 4] [.sv a0 4 e0 c0, .int .i64 n2] N12 (fun
 a_3 es_3 c_3 N13 => N12 ≤ N13 → Bel N13 (D.sl a_3 4 es_3 c_3) → ∀ N14, N13 ≤ N14 → ACalls prog 120 [.ag 2] [.sv a_3 4 es_3 c_3, .dg 9 (List.getD es_2 0 default),
 .int .i64 n2] N14 (fun x_4 N15 => N14 ≤ N15 → Bel N15 x_4 → ∀ N16, N15 ≤ N16 → ACalls prog 233 [.ag 2] [.dg 2 x_4] N16 (fun x_5 N17 => N16 ≤ N17 → Bel
 N17 x_5 → ∀ N18, N17 ≤ N18 → Q x_5 N18)))) (Br (n == 13) (∃ a_4 es_4, ∃ c_4 : Nat, (x1.cell 8) = D.sl a_4 9 es_4 c_4 ∧ ((0 : Int) ≤ (0 : Int) ∧ 0 < (es_4.length
 : Int)) ∧ ∀ N19, N ≤ N19 → ACalls prog 120 [.ag 2] [.sv a0 4 e0 c0, .dg 9 (List.getD es_4 0 default), .int .i64 n2] N19 (fun x_6 N20 => N19 ≤ N20 → Bel N20
 x_6 → ∀ N21, N20 ≤ N21 → ACalls prog 144 [.bool] [.dg 2 x_6] N21 (fun b N22 => N21 ≤ N22 → Br b (∀ N23, N22 ≤ N23 → ACalls prog 232 [.ag 2] [.dg 2 x_6]
 N23 (fun x_7 N24 => N23 ≤ N24 → Bel N24 x_7 → ∀ N25, N24 ≤ N25 → Q x_7 N25)) (∀ N26, N22 ≤ N26 → Q (D.ag [D.lit (.int .i64 0), D.sl Option.none 2 []
 0]) N26)))) (∀ N27, N ≤ N27 → Q (D.ag [D.lit (.int .i64 0), D.sl Option.none 2 [] 0]) N27))))) : ACalls prog 205 [.ag 2] [PV.sv a0 4 e0 c0, PV.dg 9 x1, PV.int .i64 n2] N Q :=
  eE (H := H_impl_stageType) (by kernel_rfl) (by kernel_rfl) h
theorem w_impl_formType (N : Nat) (a0 : Option Addr) (e0 : List D) (c0 : Nat) (x1 : D) (n2 : Int) (Q : QT [.ag 2]) (h :
Bel N (D.sl a0 4 e0 c0) → Bel N x1 → ∃ n : Int, (x1.cell 0) = D.lit (.int .i64 n) ∧ Br (n == 1) (∃ s, (x1.cell 1) = D.lit (.string s) ∧ ∀ N1, N ≤ N1 → ACalls prog
 200 [.int .i64] [.sv a0 4 e0 c0, .str s] N1 (fun n_1 N2 => N1 ≤ N2 → Br (decide (n_1 ≥ 0)) ((0 ≤ n_1 ∧ n_1 < (e0.length : Int)) ∧ ∃ n_2 : Int, (if 0 = 0 then
 D.cell (List.getD e0 n_1.toNat default) 3 else D.sub (List.getD e0 n_1.toNat default) 3 0) = D.lit (.int .i64 n_2) ∧ Br (n_2 == n2) ((0 ≤ n_1 ∧ n_1 < (e0.length
 : Int)) ∧ ∀ N3, N2 ≤ N3 → ACalls prog 111 [.ag 2] [.dg 2 (if 2 = 0 then D.cell (List.getD e0 n_1.toNat default) 1 else D.sub (List.getD e0 n_1.toNat default)
 1 2)] N3 (fun x N4 => N3 ≤ N4 → Bel N4 x → ∀ N5, N4 ≤ N5 → Q x N5)) (∀ N6, N2 ≤ N6 → Q (D.ag [D.lit (.int .i64 0), D.sl Option.none 2 [] 0]) N6)) (∀
 N7, N2 ≤ N7 → Q (D.ag [D.lit (.int .i64 0), D.sl Option.none 2 [] 0]) N7))) (Br (n == 2) (∀ N8, N ≤ N8 → ACalls prog 201 [.ag 2] [] N8 (fun x_1 N9 => N8
 ≤ N9 → Bel N9 x_1 → ∀ N10, N9 ≤ N10 → Q x_1 N10)) (Br (n == 3) (∀ N11, N ≤ N11 → ACalls prog 202 [.ag 2] [] N11 (fun x_2 N12 => N11 ≤ N12 → Bel N12
 x_2 → ∀ N13, N12 ≤ N13 → Q x_2 N13)) (Br (n == 4) (∃ a es, ∃ c : Nat, (x1.cell 8) = D.sl a 9 es c ∧ L_impl_formType_15 Q N 0 0 (es.length : Int) 0 x1 0 Option.none
 [] 0 a0 e0 c0 n2 [] 0 N) (Br (n == 5) (∀ ad, ApA (Option.some ad) [D.sl a0 4 e0 c0] → ∀ ad_1, ApA (Option.some ad_1) [x1] → ∀ ad_2, ApA (Option.some ad_2) [D.lit
 (.int .i64 n2)] → ∀ N14, N ≤ N14 → BelA N14 [Option.some ad, Option.some ad_1, Option.some ad_2] → ACalls prog 199 [.ag 2] [.int .i64 1, .pd ad 0 (D.sl a0 4 e0
 c0), .pd ad_1 9 x1, .pd ad_2 0 (D.lit (.int .i64 n2))] N14 (fun x_3 N15 => N14 ≤ N15 → Off [Option.some ad, Option.some ad_1, Option.some ad_2] x_3 ∧ (Bel N15
 x_3 → ∀ ad_3, ApA (Option.some ad_3) [D.sl a0 4 e0 c0] → ∀ ad_4, ApA (Option.some ad_4) [x1] → ∀ ad_5, ApA (Option.some ad_5) [D.lit (.int .i64 n2)] → ∀ N16, N15
 ≤ N16 → BelA N16 [Option.some ad_3, Option.some ad_4, Option.some ad_5] → ACalls prog 199 [.ag 2] [.int .i64 2, .pd ad_3 0 (D.sl a0 4 e0 c0), .pd ad_4 9 x1, .pd
 ad_5 0 (D.lit (.int .i64 n2))] N16 (fun x_4 N17 => N16 ≤ N17 → Off [Option.some ad_3, Option.some ad_4, Option.some ad_5] x_4 ∧ (Bel N17 x_4 → ∀ ad_6, ApA (Option.some
 ad_6) [D.sl a0 4 e0 c0] → ∀ ad_7, ApA (Option.some ad_7) [x1] → ∀ ad_8, ApA (Option.some ad_8) [D.lit (.int .i64 n2)] → ∀ N18, N17 ≤ N18 → BelA N18 [Option.some
 ad_6, Option.some ad_7, Option.some ad_8] → ACalls prog 199 [.ag 2] [.int .i64 0, .pd ad_6 0 (D.sl a0 4 e0 c0), .pd ad_7 9 x1, .pd ad_8 0 (D.lit (.int .i64 n2))]
 N18 (fun x_5 N19 => N18 ≤ N19 → Off [Option.some ad_6, Option.some ad_7, Option.some ad_8] x_5 ∧ (Bel N19 x_5 → ∀ N20, N19 ≤ N20 → ACalls prog 202 [.ag 2]
 [] N20 (fun x_6 N21 => N20 ≤ N21 → Bel N21 x_6 → ∀ N22, N21 ≤ N22 → ACalls prog 130 [.bool] [.dg 2 x_5, .dg 2 x_6] N22 (fun b N23 => N22 ≤ N23 → Br b
 (∀ N24, N23 ≤ N24 → ACalls prog 130 [.bool] [.dg 2 x_3, .dg 2 x_4] N24 (fun b_1 N25 => N24 ≤ N25 → Br b_1 (∀ N26, N25 ≤ N26 → Q x_3 N26) (∀ N27, N25
 ≤ N27 → Q (D.ag [D.lit (.int .i64 0), D.sl Option.none 2 [] 0]) N27))) (∀ N28, N23 ≤ N28 → Q (D.ag [D.lit (.int .i64 0), D.sl Option.none 2 [] 0]) N28))))))))))
 (Br (n == 7) (∀ ad_9, ApA (Option.some ad_9) [D.sl a0 4 e0 c0] → ∀ ad_10, ApA (Option.some ad_10) [x1] → ∀ ad_11, ApA (Option.some ad_11) [D.lit (.int .i64 n2)]
 → ∀ N29, N ≤ N29 → BelA N29 [Option.some ad_9, Option.some ad_10, Option.some ad_11] → ACalls prog 199 [.ag 2] [.int .i64 0, .pd ad_9 0 (D.sl a0 4 e0 c0), .pd
 ad_10 9 x1, .pd ad_11 0 (D.lit (.int .i64 n2))] N29 (fun x_7 N30 => N29 ≤ N30 → Off [Option.some ad_9, Option.some ad_10, Option.some ad_11] x_7 ∧ (Bel N30
 x_7 → ∀ ad_12, ApA (Option.some ad_12) [D.sl a0 4 e0 c0] → ∀ ad_13, ApA (Option.some ad_13) [x1] → ∀ ad_14, ApA (Option.some ad_14) [D.lit (.int .i64 n2)] → ∀ N31,
 N30 ≤ N31 → BelA N31 [Option.some ad_12, Option.some ad_13, Option.some ad_14] → ACalls prog 199 [.ag 2] [.int .i64 1, .pd ad_12 0 (D.sl a0 4 e0 c0), .pd ad_13
 9 x1, .pd ad_14 0 (D.lit (.int .i64 n2))] N31 (fun x_8 N32 => N31 ≤ N32 → Off [Option.some ad_12, Option.some ad_13, Option.some ad_14] x_8 ∧ (Bel N32 x_8 →
 ∃ n_3 : Int, (x_7.cell 0) = D.lit (.int .i64 n_3) ∧ Br (n_3 == 3) (∃ a_1 es_1, ∃ c_1 : Nat, (x_7.cell 1) = D.sl a_1 2 es_1 c_1 ∧ ((0 : Int) ≤ (0 : Int) ∧ 0 < (es_1.length
 : Int)) ∧ ∀ N33, N32 ≤ N33 → ACalls prog 130 [.bool] [.dg 2 (List.getD es_1 0 default), .dg 2 x_8] N33 (fun b_2 N34 => N33 ≤ N34 → Br b_2 (∃ a_2 es_2, ∃ c_2
 : Nat, (x_7.cell 1) = D.sl a_2 2 es_2 c_2 ∧ ((0 : Int) ≤ (1 : Int) ∧ 1 < (es_2.length : Int)) ∧ ∀ N35, N34 ≤ N35 → ACalls prog 111 [.ag 2] [.dg 2 (List.getD es_2
 1 default)] N35 (fun x_9 N36 => N35 ≤ N36 → Bel N36 x_9 → ∀ N37, N36 ≤ N37 → Q x_9 N37)) (∀ N38, N34 ≤ N38 → Q (D.ag [D.lit (.int .i64 0), D.sl Option.none
 2 [] 0]) N38))) (∀ N39, N32 ≤ N39 → Q (D.ag [D.lit (.int .i64 0), D.sl Option.none 2 [] 0]) N39)))))) (Br (n == 6) (∃ s_1, (x1.cell 1) = D.lit (.string s_1)
 ∧ ∃ a_3 es_3, ∃ c_3 : Nat, (x1.cell 8) = D.sl a_3 9 es_3 c_3 ∧ ((0 : Int) ≤ (0 : Int) ∧ 0 < (es_3.length : Int)) ∧ (1 = ([D.ag [D.lit (.string s_1), D.cell (D.sub
 x1 4 2) 0, D.cell (D.sub x1 4 2) 1, D.lit (.int .i64 n2)]]).length ∧ 1 = 1) ∧ ∀ a_4, ApA a_4 [D.ag [D.lit (.string s_1), D.cell (D.sub x1 4 2) 0, D.cell (D.sub x1
 4 2) 1, D.lit (.int .i64 n2)]] → Off [a_4] (D.sl a0 4 e0 c0) → ∀ N40, N ≤ N40 → BelA N40 [a_4] → ACalls prog 162 [.sl 4] [.sv a0 4 e0 c0, .sv a_4 4 [D.ag [D.lit
 (.string s_1), D.cell (D.sub x1 4 2) 0, D.cell (D.sub x1 4 2) 1, D.lit (.int .i64 n2)]] 1] N40 (fun a_5 es_4 c_4 N41 => N40 ≤ N41 → Off [a_4] (D.sl a_5 4 es_4
 c_4) ∧ (Bel N41 (D.sl a_5 4 es_4 c_4) → ∀ N42, N41 ≤ N42 → ACalls prog 120 [.ag 2] [.sv a_5 4 es_4 c_4, .dg 9 (List.getD es_3 0 default), .int .i64 n2] N42
 (fun x_10 N43 => N42 ≤ N43 → Bel N43 x_10 → ∃ n_4 : Int, (x_10.cell 0) = D.lit (.int .i64 n_4) ∧ Br (n_4 == 0) (∀ N44, N43 ≤ N44 → Q (D.ag [D.lit (.int .i64
 0), D.sl Option.none 2 [] 0]) N44) (∀ N45, N43 ≤ N45 → ACalls prog 204 [.ag 2] [.dg 2 (D.sub x1 4 2), .dg 2 x_10] N45 (fun x_11 N46 => N45 ≤ N46 → Bel N46
 x_11 → ∀ N47, N46 ≤ N47 → Q x_11 N47)))))) (Br (n == 8) (∀ ad_15, ApA (Option.some ad_15) [D.sl a0 4 e0 c0] → ∀ ad_16, ApA (Option.some ad_16) [x1] → ∀ ad_17,
 ApA (Option.some ad_17) [D.lit (.int .i64 n2)] → ∀ N48, N ≤ N48 → BelA N48 [Option.some ad_15, Option.some ad_16, Option.some ad_17] → ACalls prog 199 [.ag 2]
 [.int .i64 0, .pd ad_15 0 (D.sl a0 4 e0 c0), .pd ad_16 9 x1, .pd ad_17 0 (D.lit (.int .i64 n2))] N48 (fun x_12 N49 => N48 ≤ N49 → Off [Option.some ad_15, Option.some
 ad_16, Option.some ad_17] x_12 ∧ (Bel N49 x_12 → ∃ n_5 : Int, (x_12.cell 0) = D.lit (.int .i64 n_5) ∧ Br (n_5 == 0) (∀ N50, N49 ≤ N50 → Q (D.ag [D.lit (.int
 .i64 0), D.sl Option.none 2 [] 0]) N50) (∃ s_2, (x1.cell 1) = D.lit (.string s_2) ∧ ∃ a_6 es_5, ∃ c_5 : Nat, (x1.cell 8) = D.sl a_6 9 es_5 c_5 ∧ ((0 : Int) ≤ (1
 : Int) ∧ 1 < (es_5.length : Int)) ∧ (1 = ([D.ag [D.lit (.string s_2), (x_12.cell 0), (x_12.cell 1), D.lit (.int .i64 n2)]]).length ∧ 1 = 1) ∧ ∀ a_7, ApA a_7 [D.ag
 [D.lit (.string s_2), (x_12.cell 0), (x_12.cell 1), D.lit (.int .i64 n2)]] → Off [a_7] (D.sl a0 4 e0 c0) → ∀ N51, N49 ≤ N51 → BelA N51 [a_7] → ACalls prog 162
 [.sl 4] [.sv a0 4 e0 c0, .sv a_7 4 [D.ag [D.lit (.string s_2), (x_12.cell 0), (x_12.cell 1), D.lit (.int .i64 n2)]] 1] N51 (fun a_8 es_6 c_6 N52 => N51 ≤ N52
 → Off [a_7] (D.sl a_8 4 es_6 c_6) ∧ (Bel N52 (D.sl a_8 4 es_6 c_6) → ∀ N53, N52 ≤ N53 → ACalls prog 120 [.ag 2] [.sv a_8 4 es_6 c_6, .dg 9 (List.getD es_5 1
 default), .int .i64 n2] N53 (fun x_13 N54 => N53 ≤ N54 → Bel N54 x_13 → ∀ N55, N54 ≤ N55 → Q x_13 N55))))))) (Br (n == 9) (∀ N56, N ≤ N56 → ACalls prog
 204 [.ag 2] [.dg 2 (D.sub x1 4 2), .dg 2 (D.sub x1 6 2)] N56 (fun x_14 N57 => N56 ≤ N57 → Bel N57 x_14 → ∃ s_3, (x1.cell 1) = D.lit (.string s_3) ∧ ∃ s_4, (x1.cell
 2) = D.lit (.string s_4) ∧ ∃ a_9 es_7, ∃ c_7 : Nat, (x1.cell 8) = D.sl a_9 9 es_7 c_7 ∧ ((0 : Int) ≤ (0 : Int) ∧ 0 < (es_7.length : Int)) ∧ (2 = ([D.ag [D.lit (.string
 s_3), (x_14.cell 0), (x_14.cell 1), D.lit (.int .i64 n2)], D.ag [D.lit (.string s_4), D.cell (D.sub x1 4 2) 0, D.cell (D.sub x1 4 2) 1, D.lit (.int .i64 n2)]]).length
 ∧ 2 = 2) ∧ ∀ a_10, ApA a_10 [D.ag [D.lit (.string s_3), (x_14.cell 0), (x_14.cell 1), D.lit (.int .i64 n2)], D.ag [D.lit (.string s_4), D.cell (D.sub x1 4 2) 0,
 D.cell (D.sub x1 4 2) 1, D.lit (.int .i64 n2)]] → Off [a_10] (D.sl a0 4 e0 c0) → ∀ N58, N57 ≤ N58 → BelA N58 [a_10] → ACalls prog 162 [.sl 4] [.sv a0 4 e0 c0,
 .sv a_10 4 [D.ag [D.lit (.string s_3), (x_14.cell 0), (x_14.cell 1), D.lit (.int .i64 n2)], D.ag [D.lit (.string s_4), D.cell (D.sub x1 4 2) 0, D.cell (D.sub x1
 4 2) 1, D.lit (.int .i64 n2)]] 2] N58 (fun a_11 es_8 c_8 N59 => N58 ≤ N59 → Off [a_10] (D.sl a_11 4 es_8 c_8) ∧ (Bel N59 (D.sl a_11 4 es_8 c_8) → ∀ N60, N59
 ≤ N60 → ACalls prog 120 [.ag 2] [.sv a_11 4 es_8 c_8, .dg 9 (List.getD es_7 0 default), .int .i64 n2] N60 (fun x_15 N61 => N60 ≤ N61 → Bel N61 x_15 → ∀ N62,
 N61 ≤ N62 → ACalls prog 130 [.bool] [.dg 2 x_15, .dg 2 (D.sub x1 6 2)] N62 (fun b_3 N63 => N62 ≤ N63 → Br b_3 (∀ N64, N63 ≤ N64 → Q x_14 N64) (∀ N65,
 N63 ≤ N65 → Q (D.ag [D.lit (.int .i64 0), D.sl Option.none 2 [] 0]) N65))))))) (∀ N66, N ≤ N66 → ACalls prog 205 [.ag 2] [.sv a0 4 e0 c0, .dg 9 x1, .int .i64
 n2] N66 (fun x_16 N67 => N66 ≤ N67 → Bel N67 x_16 → ∀ N68, N67 ≤ N68 → Q x_16 N68))))))))))) : ACalls prog 160 [.ag 2] [PV.sv a0 4 e0 c0, PV.dg 9 x1, PV.int .i64 n2] N Q :=
  eE (H := H_impl_formType) (by kernel_rfl) (by kernel_rfl) h
theorem w_impl_typed (N : Nat) (a0 : Option Addr) (e0 : List D) (c0 : Nat) (x1 : D) (n2 : Int) (Q : QT [.ag 2]) (h :
Bel N (D.sl a0 4 e0 c0) → Bel N x1 → ∀ N1, N ≤ N1 → ACalls prog 160 [.ag 2] [.sv a0 4 e0 c0, .dg 9 x1, .int .i64 n2] N1 (fun x N2 => N1 ≤ N2 → Bel N2 x →
 ∀ N3, N2 ≤ N3 → ACalls prog 161 [.bool] [.dg 2 x] N3 (fun b N4 => N3 ≤ N4 → Br (!b) (∀ N5, N4 ≤ N5 → Q (D.ag [D.lit (.int .i64 0), D.sl Option.none 2 []
 0]) N5) (∀ N6, N4 ≤ N6 → Q x N6)))) : ACalls prog 120 [.ag 2] [PV.sv a0 4 e0 c0, PV.dg 9 x1, PV.int .i64 n2] N Q :=
  eE (H := H_impl_typed) (by kernel_rfl) (by kernel_rfl) h
theorem w_impl_TypeOf (N : Nat) (a0 : Option Addr) (e0 : List D) (c0 : Nat) (x1 : D) (n2 : Int) (Q : QT [.ag 2, .bool]) (h :
Bel N (D.sl a0 4 e0 c0) → Bel N x1 → ∀ N1, N ≤ N1 → ACalls prog 148 [.bool] [.sv a0 4 e0 c0] N1 (fun b N2 => N1 ≤ N2 → Br (!b) (∀ N3, N2 ≤ N3 → Q (D.ag
 [D.lit (.int .i64 0), D.sl Option.none 2 [] 0]) false N3) (∀ N4, N2 ≤ N4 → ACalls prog 149 [.bool] [.dg 9 x1, .int .i64 n2] N4 (fun b_1 N5 => N4 ≤ N5 → Br
 (!b_1) (∀ N6, N5 ≤ N6 → Q (D.ag [D.lit (.int .i64 0), D.sl Option.none 2 [] 0]) false N6) (∀ N7, N5 ≤ N7 → ACalls prog 120 [.ag 2] [.sv a0 4 e0 c0, .dg 9
 x1, .int .i64 n2] N7 (fun x N8 => N7 ≤ N8 → Bel N8 x → ∃ n : Int, (x.cell 0) = D.lit (.int .i64 n) ∧ ∀ N9, N8 ≤ N9 → Q x (bne n 0) N9)))))) : ACalls prog 100 [.ag 2, .bool] [PV.sv a0 4 e0 c0, PV.dg 9 x1, PV.int .i64 n2] N Q :=
  eE (H := H_impl_TypeOf) (by kernel_rfl) (by kernel_rfl) h
theorem l_slices_Index__str_2 (Q : QT [.int .i64]) (N0 : Nat) (a0 : Option Addr) (e0 : List D) (c0 : Nat) (s1 : ByteArray) (n7 n8 : Int) (N : Nat) (h :
Br (decide (n8 < n7)) ((0 ≤ n8 ∧ n8 < (e0.length : Int)) ∧ ∃ s, List.getD e0 n8.toNat default = D.lit (.string s) ∧ Br (ByteArray.toList s1 == ByteArray.toList s)
 (∀ N1, N ≤ N1 → Q n8 N1) (L_slices_Index__str_2 Q N0 a0 e0 c0 s1 n7 (IntKind.i64.wrap (n8 + 1)) N)) (∀ N2, N ≤ N2 → Q (-1) N2)) : L_slices_Index__str_2 Q N0 a0 e0 c0 s1 n7 n8 N :=
  hE (H := H_slices_Index__str) (by kernel_rfl) h
theorem l_impl_IsName_2 (Q : QT [.bool]) (N0 : Nat) (s0 : ByteArray) (n6 n7 : Int) (N : Nat) (h :
Br (decide (n7 < n6)) ((0 ≤ n7 ∧ n7 < (s0.size : Int)) ∧ Br (decide ((UInt8.toNat (Array.getD (ByteArray.data s0) n7.toNat (OfNat.ofNat 0)) : Int) ≥ 97)) ((0 ≤ n7
 ∧ n7 < (s0.size : Int)) ∧ Br (!(decide ((UInt8.toNat (Array.getD (ByteArray.data s0) n7.toNat (OfNat.ofNat 0)) : Int) ≤ 122))) (Br (n7 == 0) (∀ N1, N ≤ N1 → Q
 false N1) ((0 ≤ n7 ∧ n7 < (s0.size : Int)) ∧ Br (decide ((UInt8.toNat (Array.getD (ByteArray.data s0) n7.toNat (OfNat.ofNat 0)) : Int) < 48)) (∀ N2, N ≤ N2 →
 Q false N2) ((0 ≤ n7 ∧ n7 < (s0.size : Int)) ∧ Br (decide ((UInt8.toNat (Array.getD (ByteArray.data s0) n7.toNat (OfNat.ofNat 0)) : Int) > 57)) (∀ N3, N ≤ N3
 → Q false N3) (L_impl_IsName_2 Q N0 s0 n6 (IntKind.i64.wrap (n7 + 1)) N)))) (L_impl_IsName_2 Q N0 s0 n6 (IntKind.i64.wrap (n7 + 1)) N)) (Br (n7 == 0) (∀ N4, N
 ≤ N4 → Q false N4) ((0 ≤ n7 ∧ n7 < (s0.size : Int)) ∧ Br (decide ((UInt8.toNat (Array.getD (ByteArray.data s0) n7.toNat (OfNat.ofNat 0)) : Int) < 48)) (∀ N5,
 N ≤ N5 → Q false N5) ((0 ≤ n7 ∧ n7 < (s0.size : Int)) ∧ Br (decide ((UInt8.toNat (Array.getD (ByteArray.data s0) n7.toNat (OfNat.ofNat 0)) : Int) > 57)) (∀ N6,
 N ≤ N6 → Q false N6) (L_impl_IsName_2 Q N0 s0 n6 (IntKind.i64.wrap (n7 + 1)) N))))) (∀ N7, N ≤ N7 → ACalls prog 97 [.bool] [.int .i64 (s0.size : Int), .int .i64
 1, .int .i64 4] N7 (fun b N8 => N7 ≤ N8 → Br b ((5 = 5 ∧ 5 = 5) ∧ ∀ a, ApA a [D.lit (.string (bytes [105, 102])), D.lit (.string (bytes [108, 101, 116])), D.lit
 (.string (bytes [108, 105, 102, 116])), D.lit (.string (bytes [114, 101, 99])), D.lit (.string (bytes [114, 117, 110]))] → ∀ N9, N8 ≤ N9 → BelA N9 [a] → ACalls
 prog 169 [.bool] [.sv a 0 [D.lit (.string (bytes [105, 102])), D.lit (.string (bytes [108, 101, 116])), D.lit (.string (bytes [108, 105, 102, 116])), D.lit (.string
 (bytes [114, 101, 99])), D.lit (.string (bytes [114, 117, 110]))] 5, .str s0] N9 (fun b_1 N10 => N9 ≤ N10 → ∀ N11, N10 ≤ N11 → Q (!b_1) N11)) (∀ N12, N8
 ≤ N12 → Q false N12)))) : L_impl_IsName_2 Q N0 s0 n6 n7 N :=
  hE (H := H_impl_IsName) (by kernel_rfl) h
theorem l_impl_SizeOfType_3 (Q : QT [.int .i64]) (N0 : Nat) (n3 : Int) (a7 : Option Addr) (e7 : List D) (c7 : Nat) (n8 n9 : Int) (N : Nat) (h :
Br (decide (n9 < n8)) ((0 ≤ n9 ∧ n9 < (e7.length : Int)) ∧ ∀ N1, N ≤ N1 → ACalls prog 206 [.int .i64] [.dg 2 (List.getD e7 n9.toNat default)] N1 (fun n N2 =>
 N1 ≤ N2 → L_impl_SizeOfType_3 Q N0 (IntKind.i64.wrap (n3 + n)) a7 e7 c7 n8 (IntKind.i64.wrap (n9 + 1)) N2)) (∀ N3, N ≤ N3 → Q n3 N3)) : L_impl_SizeOfType_3 Q N0 n3 a7 e7 c7 n8 n9 N :=
  hE (H := H_impl_SizeOfType) (by kernel_rfl) h
theorem l_impl_DepthOfType_3 (Q : QT [.int .i64]) (N0 : Nat) (n3 : Int) (a7 : Option Addr) (e7 : List D) (c7 : Nat) (n8 n9 : Int) (N : Nat) (h :
Br (decide (n9 < n8)) ((0 ≤ n9 ∧ n9 < (e7.length : Int)) ∧ ∀ N1, N ≤ N1 → ACalls prog 207 [.int .i64] [.dg 2 (List.getD e7 n9.toNat default)] N1 (fun n N2 =>
 N1 ≤ N2 → L_impl_DepthOfType_3 Q N0 (if n > n3 then n else n3) a7 e7 c7 n8 (IntKind.i64.wrap (n9 + 1)) N2)) (∀ N3, N ≤ N3 → Q (IntKind.i64.wrap (n3 + 1)) N3) 
 ) : L_impl_DepthOfType_3 Q N0 n3 a7 e7 c7 n8 n9 N :=
  hE (H := H_impl_DepthOfType) (by kernel_rfl) h
theorem w_impl_allTypes_i0 (N : Nat) (x0 : D) (Q : QT [.bool]) (h :
Bel N x0 → ∀ N1, N ≤ N1 → ACalls prog 209 [.bool] [.dg 2 x0] N1 (fun b N2 => N1 ≤ N2 → Br b (∃ a es, ∃ c : Nat, (x0.cell 1) = D.sl a 2 es c ∧ ∀ ad, ApA (Option.some
 ad) [D.fn (OfNat.ofNat 209) []] → Off [Option.some ad] (D.sl a 2 es c) → ∀ N3, N2 ≤ N3 → BelA N3 [Option.some ad] → ACalls prog 235 [.bool] [.sv a 2 es c, .fn
 236 [.pd ad 0 (.fn 209 [])]] N3 (fun b_1 N4 => N3 ≤ N4 → ∀ N5, N4 ≤ N5 → Q (!b_1) N5)) (∀ N6, N2 ≤ N6 → Q false N6))) : ACalls prog 208 [.bool] [.dg 2 x0, .fn 209 []] N Q :=
  eE (H := H_impl_allTypes) (by kernel_rfl) (by kernel_rfl) h
theorem w_slices_ContainsFunc_Typing_i0 (N : Nat) (a0 : Option Addr) (e0 : List D) (c0 : Nat) (Q : QT [.bool]) (h :
Bel N (D.sl a0 4 e0 c0) → ∀ N1, N ≤ N1 → ACalls prog 229 [.int .i64] [.sv a0 4 e0 c0, .fn 189 []] N1 (fun n N2 => N1 ≤ N2 → ∀ N3, N2 ≤ N3 → Q (decide (n
 ≥ 0)) N3)) : ACalls prog 188 [.bool] [.sv a0 4 e0 c0, .fn 189 []] N Q :=
  eE (H := H_slices_ContainsFunc_Typing) (by kernel_rfl) (by kernel_rfl) h
theorem w_slices_EqualFunc_Type_i0 (N : Nat) (a0 : Option Addr) (e0 : List D) (c0 : Nat) (a1 : Option Addr) (e1 : List D) (c1 : Nat) (Q : QT [.bool]) (h :
Bel N (D.sl a0 2 e0 c0) → Bel N (D.sl a1 2 e1 c1) → Br (bne (e0.length : Int) (e1.length : Int)) (∀ N1, N ≤ N1 → Q false N1) (L_slices_EqualFunc_Type_4 Q N a1
 e1 c1 a0 e0 c0 (e0.length : Int) 0 N)) : ACalls prog 171 [.bool] [.sv a0 2 e0 c0, .sv a1 2 e1 c1, .fn 130 []] N Q :=
  eE (H := H_slices_EqualFunc_Type) (by kernel_rfl) (by kernel_rfl) h
theorem w_impl_allTerms_i0 (N : Nat) (x0 : D) (Q : QT [.bool]) (h :
Bel N x0 → ∀ N1, N ≤ N1 → ACalls prog 187 [.bool] [.dg 9 x0] N1 (fun b N2 => N1 ≤ N2 → Br b (∃ a es, ∃ c : Nat, (x0.cell 8) = D.sl a 9 es c ∧ ∀ ad, ApA (Option.some
 ad) [D.fn (OfNat.ofNat 187) []] → Off [Option.some ad] (D.sl a 9 es c) → ∀ N3, N2 ≤ N3 → BelA N3 [Option.some ad] → ACalls prog 80 [.bool] [.sv a 9 es c, .fn
 142 [.pd ad 0 (.fn 187 [])]] N3 (fun b_1 N4 => N3 ≤ N4 → ∀ N5, N4 ≤ N5 → Q (!b_1) N5)) (∀ N6, N2 ≤ N6 → Q false N6))) : ACalls prog 95 [.bool] [.dg 9 x0, .fn 187 []] N Q :=
  eE (H := H_impl_allTerms) (by kernel_rfl) (by kernel_rfl) h
theorem w_impl_levels_i0 (N : Nat) (x0 : D) (n1 : Int) (Q : QT [.bool]) (h :
Bel N x0 → ∀ N1, N ≤ N1 → ACalls prog 191 [.bool] [.dg 9 x0, .int .i64 n1] N1 (fun b N2 => N1 ≤ N2 → Br (!b) (∀ N3, N2 ≤ N3 → Q false N3) (∃ a es, ∃ c
 : Nat, (x0.cell 8) = D.sl a 9 es c ∧ L_impl_levels_4 Q N n1 a es c (es.length : Int) 0 x0 N2))) : ACalls prog 190 [.bool] [.dg 9 x0, .int .i64 n1, .fn 191 []] N Q :=
  eE (H := H_impl_levels) (by kernel_rfl) (by kernel_rfl) h
theorem l_impl_counting_2 (Q : QT [.int .i64]) (N0 : Nat) (a0 : Option Addr) (e0 : List D) (c0 : Nat) (s1 : ByteArray) (n5 : Int) (N : Nat) (h :
Br (decide (n5 ≥ 0)) ((0 ≤ n5 ∧ n5 < (e0.length : Int)) ∧ ∃ s, (if 0 = 0 then D.cell (List.getD e0 n5.toNat default) 0 else D.sub (List.getD e0 n5.toNat default)
 0 0) = D.lit (.string s) ∧ Br (ByteArray.toList s == ByteArray.toList s1) (∀ N1, N ≤ N1 → Q n5 N1) (L_impl_counting_2 Q N0 a0 e0 c0 s1 (IntKind.i64.wrap (n5 -
 1)) N)) (∀ N2, N ≤ N2 → Q (-1) N2)) : L_impl_counting_2 Q N0 a0 e0 c0 s1 n5 N :=
  hE (H := H_impl_counting) (by kernel_rfl) h
theorem l_impl_Type_own_3 (Q : QT [.ag 2]) (N0 : Nat) (a10 : Option Addr) (e10 : List D) (c10 : Nat) (n11 n12 n0_0 : Int) (a0_1 : Option Addr) (e0_1 : List D) (c0_1 : Nat) (n1_0 : Int) (a1_1 : Option Addr) (e1_1 : List D) (c1_1 : Nat) (N : Nat) (h :
Br (decide (n12 < n11)) ((0 ≤ n12 ∧ n12 < (e10.length : Int)) ∧ ∀ N1, N ≤ N1 → ACalls prog 111 [.ag 2] [.dg 2 (List.getD e10 n12.toNat default)] N1 (fun x N2
 => N1 ≤ N2 → Bel N2 x → ApOk a1_1 e1_1 c1_1 [x] ∧ apBound e1_1 [x] 32 ∧ ∀ (c : Nat), L_impl_Type_own_3_v1 Q N0 a10 e10 c10 n11 (IntKind.i64.wrap (n12 + 1)) n0_0
 a0_1 e0_1 c0_1 n1_0 (e1_1 ++ [x]).length c (e1_1 ++ [x]) c N2)) (∀ N3, N ≤ N3 → Q (D.ag [D.lit (.int .i64 n1_0), D.sl a1_1 2 e1_1 c1_1]) N3)) : L_impl_Type_own_3 Q N0 a10 e10 c10 n11 n12 n0_0 a0_1 e0_1 c0_1 n1_0 a1_1 e1_1 c1_1 N :=
  hE (H := H_impl_Type_own) (by kernel_rfl) h
theorem l_impl_opType_11 (Q : QT [.ag 2]) (N0 : Nat) (a22 : Option Addr) (e22 : List D) (c22 : Nat) (n23 n24 n0_0 : Int) (a0_1 : Option Addr) (e0_1 : List D) (c0_1 : Nat) (y1 y2 : D) (N : Nat) (h :
Br (decide (n24 < n23)) ((0 ≤ n24 ∧ n24 < (e22.length : Int)) ∧ ∀ N1, N ≤ N1 → ACalls prog 130 [.bool] [.dg 2 (List.getD e22 n24.toNat default), .dg 2 y1] N1
 (fun b N2 => N1 ≤ N2 → Br (!b) (∀ N3, N2 ≤ N3 → Q (D.ag [D.lit (.int .i64 0), D.sl Option.none 2 [] 0]) N3) (L_impl_opType_11 Q N0 a22 e22 c22 n23 (IntKind.i64.wrap
 (n24 + 1)) n0_0 a0_1 e0_1 c0_1 y1 y2 N2))) (∀ N4, N ≤ N4 → Q y2 N4)) : L_impl_opType_11 Q N0 a22 e22 c22 n23 n24 n0_0 a0_1 e0_1 c0_1 y1 y2 N :=
  hE (H := H_impl_opType) (by kernel_rfl) h
theorem l_impl_SafeCtx_3 (Q : QT [.sl 4]) (N0 : Nat) (a0 : Option Addr) (e0 : List D) (c0 : Nat) (n1 : Int) (m5 c5 : Nat) (a9 : Option Addr) (e9 : List D) (c9 : Nat) (n10 n11 : Int) (r0 : List D) (q0 : Nat) (N : Nat) (h :
Br (decide (n11 < n10)) ((0 ≤ n11 ∧ n11 < (e9.length : Int)) ∧ ∀ N1, N ≤ N1 → ACalls prog 144 [.bool] [.dg 2 (D.sub (List.getD e9 n11.toNat default) 1 2)] N1
 (fun b N2 => N1 ≤ N2 → Br b (∃ n : Int, D.cell (List.getD e9 n11.toNat default) 3 = D.lit (.int .i64 n) ∧ Br (decide (n ≤ n1)) (∃ s, D.cell (List.getD e9 n11.toNat
 default) 0 = D.lit (.string s) ∧ ∀ N3, N2 ≤ N3 → ACalls prog 200 [.int .i64] [.sv a0 4 e0 c0, .str s] N3 (fun n_1 N4 => N3 ≤ N4 → Br (n_1 == n11) (∃ s_1,
 D.cell (List.getD e9 n11.toNat default) 0 = D.lit (.string s_1) ∧ ∃ n_2 : Int, D.cell (List.getD e9 n11.toNat default) 3 = D.lit (.int .i64 n_2) ∧ ∀ N5, N4 ≤ N5
 → ACalls prog 111 [.ag 2] [.dg 2 (D.sub (List.getD e9 n11.toNat default) 1 2)] N5 (fun x N6 => N5 ≤ N6 → Bel N6 x → (m5 = r0.length ∧ c5 = q0) ∧ apBound r0
 [D.ag [D.lit (.string s_1), (x.cell 0), (x.cell 1), D.lit (.int .i64 n_2)]] 56 ∧ ∀ (c : Nat), L_impl_SafeCtx_3 Q N0 a0 e0 c0 n1 (r0 ++ [D.ag [D.lit (.string s_1),
 (x.cell 0), (x.cell 1), D.lit (.int .i64 n_2)]]).length c a9 e9 c9 n10 (IntKind.i64.wrap (n11 + 1)) (r0 ++ [D.ag [D.lit (.string s_1), (x.cell 0), (x.cell 1), D.lit
 (.int .i64 n_2)]]) c N6)) (L_impl_SafeCtx_3 Q N0 a0 e0 c0 n1 m5 c5 a9 e9 c9 n10 (IntKind.i64.wrap (n11 + 1)) r0 q0 N4))) (L_impl_SafeCtx_3 Q N0 a0 e0 c0 n1 m5
 c5 a9 e9 c9 n10 (IntKind.i64.wrap (n11 + 1)) r0 q0 N2)) (L_impl_SafeCtx_3 Q N0 a0 e0 c0 n1 m5 c5 a9 e9 c9 n10 (IntKind.i64.wrap (n11 + 1)) r0 q0 N2))) ((m5 = r0.length
 ∧ c5 = q0) ∧ (m5 = r0.length ∧ c5 = q0) ∧ (m5 = r0.length ∧ c5 = q0) ∧ ∀ a N7, N ≤ N7 → Fresh N0 N7 a [D.ag r0] → ∀ N8, N7 ≤ N8 → Q a r0 q0 N8)) : L_impl_SafeCtx_3 Q N0 a0 e0 c0 n1 m5 c5 a9 e9 c9 n10 n11 r0 q0 N :=
  hE (H := H_impl_SafeCtx) (by kernel_rfl) h
theorem l_impl_formType_15 (Q : QT [.ag 2]) (N0 : Nat) (m9 c9 : Nat) (n57 n58 : Int) (y0 : D) (n1_0 : Int) (a1_1 : Option Addr) (e1_1 : List D) (c1_1 : Nat) (a2_0 : Option Addr) (e2_0 : List D) (c2_0 : Nat) (n3_0 : Int) (r4 : List D) (q4 : Nat) (N : Nat) (h :
Br (decide (n58 < n57)) (∀ ad, ApA (Option.some ad) [D.sl a2_0 4 e2_0 c2_0] → ∀ ad_1, ApA (Option.some ad_1) [y0] → ∀ ad_2, ApA (Option.some ad_2) [D.lit (.int .i64
 n3_0)] → ∀ N1, N ≤ N1 → BelA N1 [Option.some ad, Option.some ad_1, Option.some ad_2] → ACalls prog 199 [.ag 2] [.int .i64 n58, .pd ad 0 (D.sl a2_0 4 e2_0 c2_0),
 .pd ad_1 9 y0, .pd ad_2 0 (D.lit (.int .i64 n3_0))] N1 (fun x N2 => N1 ≤ N2 → Off [Option.some ad, Option.some ad_1, Option.some ad_2] x ∧ (Bel N2 x → (m9 =
 r4.length ∧ c9 = q4) ∧ apBound r4 [x] 32 ∧ ∀ (c : Nat), L_impl_formType_15 Q N0 (r4 ++ [x]).length c n57 (IntKind.i64.wrap (n58 + 1)) y0 n1_0 a1_1 e1_1 c1_1 a2_0
 e2_0 c2_0 n3_0 (r4 ++ [x]) c N2))) (∃ s, (y0.cell 1) = D.lit (.string s) ∧ (m9 = r4.length ∧ c9 = q4) ∧ ∀ a, ApA a r4 → ∀ N3, N ≤ N3 → BelA N3 [a] → ACalls prog
 203 [.ag 2] [.str s, .sv a 2 r4 c9] N3 (fun x_1 N4 => N3 ≤ N4 → Off [a] x_1 ∧ (Bel N4 x_1 → ∀ N5, N4 ≤ N5 → Q x_1 N5)))) : L_impl_formType_15 Q N0 m9 c9 n57 n58 y0 n1_0 a1_1 e1_1 c1_1 a2_0 e2_0 c2_0 n3_0 r4 q4 N :=
  hE (H := H_impl_formType) (by kernel_rfl) h
theorem w_impl_formType_1_i0 (N : Nat) (n0 : Int) (a1 : Addr) (x1_ : D) (a2 : Addr) (x2_ : D) (a3 : Addr) (x3_ : D) (Q : QT [.ag 2]) (h :
∃ a es, ∃ c : Nat, x1_ = D.sl a 4 es c ∧ ∃ a_1 es_1, ∃ c_1 : Nat, (if 0 = 0 then (x2_.cell 8) else D.sub x2_ 8 0) = D.sl a_1 9 es_1 c_1 ∧ (0 ≤ n0 ∧ n0 < (es_1.length
 : Int)) ∧ ∃ n : Int, x3_ = D.lit (.int .i64 n) ∧ ∀ N1, N ≤ N1 → ACalls prog 120 [.ag 2] [.sv a 4 es c, .dg 9 (List.getD es_1 n0.toNat default), .int .i64 n] N1
 (fun x N2 => N1 ≤ N2 → Bel N2 x → ∀ N3, N2 ≤ N3 → Q x N3)) : ACalls prog 199 [.ag 2] [.int .i64 n0, .pd a1 0 x1_, .pd a2 9 x2_, .pd a3 0 x3_] N Q :=
  eE (H := H_impl_formType_1) (by kernel_rfl) (by kernel_rfl) h
theorem w_slices_ContainsFunc_Type_i0 (N : Nat) (a0 : Option Addr) (e0 : List D) (c0 : Nat) (a1_0 : Addr) (Q : QT [.bool]) (h :
Bel N (D.sl a0 2 e0 c0) → ∀ N1, N ≤ N1 → ACalls prog 240 [.int .i64] [.sv a0 2 e0 c0, .fn 236 [.pd a1_0 0 (.fn 209 [])]] N1 (fun n N2 => N1 ≤ N2 → ∀ N3, N2
 ≤ N3 → Q (decide (n ≥ 0)) N3)) : ACalls prog 235 [.bool] [.sv a0 2 e0 c0, .fn 236 [.pd a1_0 0 (.fn 209 [])]] N Q :=
  eE (H := H_slices_ContainsFunc_Type) (by kernel_rfl) (by kernel_rfl) h
theorem w_slices_IndexFunc_Typing_i0 (N : Nat) (a0 : Option Addr) (e0 : List D) (c0 : Nat) (Q : QT [.int .i64]) (h :
Bel N (D.sl a0 4 e0 c0) → L_slices_IndexFunc_Typing_2 Q N a0 e0 c0 (e0.length : Int) 0 N) : ACalls prog 229 [.int .i64] [.sv a0 4 e0 c0, .fn 189 []] N Q :=
 eE (H := H_slices_IndexFunc_Typing) (by kernel_rfl) (by kernel_rfl) h
theorem l_slices_EqualFunc_Type_4 (Q : QT [.bool]) (N0 : Nat) (a1 : Option Addr) (e1 : List D) (c1 : Nat) (a15 : Option Addr) (e15 : List D) (c15 : Nat) (n16 n17 : Int) (N : Nat) (h :
Br (decide (n17 < n16)) ((0 ≤ n17 ∧ n17 < (e15.length : Int)) ∧ (0 ≤ n17 ∧ n17 < (e1.length : Int)) ∧ ∀ N1, N ≤ N1 → ACalls prog 130 [.bool] [.dg 2 (List.getD
 e15 n17.toNat default), .dg 2 (List.getD e1 n17.toNat default)] N1 (fun b N2 => N1 ≤ N2 → Br (!b) (∀ N3, N2 ≤ N3 → Q false N3) (L_slices_EqualFunc_Type_4
 Q N0 a1 e1 c1 a15 e15 c15 n16 (IntKind.i64.wrap (n17 + 1)) N2))) (∀ N4, N ≤ N4 → Q true N4)) : L_slices_EqualFunc_Type_4 Q N0 a1 e1 c1 a15 e15 c15 n16 n17 N :=
  hE (H := H_slices_EqualFunc_Type) (by kernel_rfl) h
theorem w_slices_ContainsFunc_Term_i0 (N : Nat) (a0 : Option Addr) (e0 : List D) (c0 : Nat) (a1_0 : Addr) (Q : QT [.bool]) (h :
Bel N (D.sl a0 9 e0 c0) → ∀ N1, N ≤ N1 → ACalls prog 132 [.int .i64] [.sv a0 9 e0 c0, .fn 142 [.pd a1_0 0 (.fn 187 [])]] N1 (fun n N2 => N1 ≤ N2 → ∀ N3, N2
 ≤ N3 → Q (decide (n ≥ 0)) N3)) : ACalls prog 80 [.bool] [.sv a0 9 e0 c0, .fn 142 [.pd a1_0 0 (.fn 187 [])]] N Q :=
  eE (H := H_slices_ContainsFunc_Term) (by kernel_rfl) (by kernel_rfl) h
theorem l_impl_levels_4 (Q : QT [.bool]) (N0 : Nat) (n1 : Int) (a15 : Option Addr) (e15 : List D) (c15 : Nat) (n16 n17 : Int) (y0 : D) (N : Nat) (h :
Br (decide (n17 < n16)) ((0 ≤ n17 ∧ n17 < (e15.length : Int)) ∧ ∀ N1, N ≤ N1 → ACalls prog 230 [.int .i64] [.dg 9 y0, .int .i64 n1] N1 (fun n N2 => N1 ≤ N2
 → ∀ N3, N2 ≤ N3 → ACalls prog 190 [.bool] [.dg 9 (List.getD e15 n17.toNat default), .int .i64 n, .fn 191 []] N3 (fun b N4 => N3 ≤ N4 → Br (!b) (∀ N5, N4
 ≤ N5 → Q false N5) (L_impl_levels_4 Q N0 n1 a15 e15 c15 n16 (IntKind.i64.wrap (n17 + 1)) y0 N4)))) (∀ N6, N ≤ N6 → Q true N6)) : L_impl_levels_4 Q N0 n1 a15 e15 c15 n16 n17 y0 N :=
  hE (H := H_impl_levels) (by kernel_rfl) h
theorem l_impl_Type_own_3_v1 (Q : QT [.ag 2]) (N0 : Nat) (a10 : Option Addr) (e10 : List D) (c10 : Nat) (n11 n12 n0_0 : Int) (a0_1 : Option Addr) (e0_1 : List D) (c0_1 : Nat) (n1_0 : Int) (m1_1 c1_1 : Nat) (r2 : List D) (q2 : Nat) (N : Nat) (h :
Br (decide (n12 < n11)) ((0 ≤ n12 ∧ n12 < (e10.length : Int)) ∧ ∀ N1, N ≤ N1 → ACalls prog 111 [.ag 2] [.dg 2 (List.getD e10 n12.toNat default)] N1 (fun x N2
 => N1 ≤ N2 → Bel N2 x → (m1_1 = r2.length ∧ c1_1 = q2) ∧ apBound r2 [x] 32 ∧ ∀ (c : Nat), L_impl_Type_own_3_v1 Q N0 a10 e10 c10 n11 (IntKind.i64.wrap (n12 + 1))
 n0_0 a0_1 e0_1 c0_1 n1_0 (r2 ++ [x]).length c (r2 ++ [x]) c N2)) ((m1_1 = r2.length ∧ c1_1 = q2) ∧ (m1_1 = r2.length ∧ c1_1 = q2) ∧ (m1_1 = r2.length ∧ c1_1 = q2)
 ∧ ∀ a N3, N ≤ N3 → Fresh N0 N3 a [D.ag r2] → ∀ N4, N3 ≤ N4 → Q (D.ag [D.lit (.int .i64 n1_0), D.sl a 2 r2 q2]) N4)) : L_impl_Type_own_3_v1 Q N0 a10 e10 c10 n11 n12 n0_0 a0_1 e0_1 c0_1 n1_0 m1_1 c1_1 r2 q2 N :=
  hE (H := H_impl_Type_own) (by kernel_rfl) h
theorem w_slices_IndexFunc_Type_i0 (N : Nat) (a0 : Option Addr) (e0 : List D) (c0 : Nat) (a1_0 : Addr) (Q : QT [.int .i64]) (h :
Bel N (D.sl a0 2 e0 c0) → L_slices_IndexFunc_Type_2 Q N a0 e0 c0 a1_0 (e0.length : Int) 0 N) : ACalls prog 240 [.int .i64] [.sv a0 2 e0 c0, .fn 236 [.pd a1_0 0 (.fn 209 [])]] N Q :=
 eE (H := H_slices_IndexFunc_Type) (by kernel_rfl) (by kernel_rfl) h
theorem l_slices_IndexFunc_Typing_2 (Q : QT [.int .i64]) (N0 : Nat) (a0 : Option Addr) (e0 : List D) (c0 : Nat) (n7 n8 : Int) (N : Nat) (h :
Br (decide (n8 < n7)) ((0 ≤ n8 ∧ n8 < (e0.length : Int)) ∧ ∀ N1, N ≤ N1 → ACalls prog 189 [.bool] [.dg 4 (List.getD e0 n8.toNat default)] N1 (fun b N2 => N1
 ≤ N2 → Br b (∀ N3, N2 ≤ N3 → Q n8 N3) (L_slices_IndexFunc_Typing_2 Q N0 a0 e0 c0 n7 (IntKind.i64.wrap (n8 + 1)) N2))) (∀ N4, N ≤ N4 → Q (-1) N4)) : L_slices_IndexFunc_Typing_2 Q N0 a0 e0 c0 n7 n8 N :=
  hE (H := H_slices_IndexFunc_Typing) (by kernel_rfl) h
theorem w_slices_IndexFunc_Term_i0 (N : Nat) (a0 : Option Addr) (e0 : List D) (c0 : Nat) (a1_0 : Addr) (Q : QT [.int .i64]) (h :
Bel N (D.sl a0 9 e0 c0) → L_slices_IndexFunc_Term_2 Q N a0 e0 c0 a1_0 (e0.length : Int) 0 N) : ACalls prog 132 [.int .i64] [.sv a0 9 e0 c0, .fn 142 [.pd a1_0 0 (.fn 187 [])]] N Q :=
 eE (H := H_slices_IndexFunc_Term) (by kernel_rfl) (by kernel_rfl) h
theorem l_slices_IndexFunc_Type_2 (Q : QT [.int .i64]) (N0 : Nat) (a0 : Option Addr) (e0 : List D) (c0 : Nat) (a1_0 : Addr) (n7 n8 : Int) (N : Nat) (h :
Br (decide (n8 < n7)) ((0 ≤ n8 ∧ n8 < (e0.length : Int)) ∧ ∀ N1, N ≤ N1 → ACalls prog 236 [.bool] [.dg 2 (List.getD e0 n8.toNat default), .pd a1_0 0 (.fn 209 [])]
 N1 (fun b N2 => N1 ≤ N2 → Br b (∀ N3, N2 ≤ N3 → Q n8 N3) (L_slices_IndexFunc_Type_2 Q N0 a0 e0 c0 a1_0 n7 (IntKind.i64.wrap (n8 + 1)) N2))) (∀ N4, N ≤
 N4 → Q (-1) N4)) : L_slices_IndexFunc_Type_2 Q N0 a0 e0 c0 a1_0 n7 n8 N :=
  hE (H := H_slices_IndexFunc_Type) (by kernel_rfl) h
theorem l_slices_IndexFunc_Term_2 (Q : QT [.int .i64]) (N0 : Nat) (a0 : Option Addr) (e0 : List D) (c0 : Nat) (a1_0 : Addr) (n7 n8 : Int) (N : Nat) (h :
Br (decide (n8 < n7)) ((0 ≤ n8 ∧ n8 < (e0.length : Int)) ∧ ∀ N1, N ≤ N1 → ACalls prog 142 [.bool] [.dg 9 (List.getD e0 n8.toNat default), .pd a1_0 0 (.fn 187 [])]
 N1 (fun b N2 => N1 ≤ N2 → Br b (∀ N3, N2 ≤ N3 → Q n8 N3) (L_slices_IndexFunc_Term_2 Q N0 a0 e0 c0 a1_0 n7 (IntKind.i64.wrap (n8 + 1)) N2))) (∀ N4, N ≤
 N4 → Q (-1) N4)) : L_slices_IndexFunc_Term_2 Q N0 a0 e0 c0 a1_0 n7 n8 N :=
  hE (H := H_slices_IndexFunc_Term) (by kernel_rfl) h
theorem w_impl_allTypes_1_i0 (N : Nat) (x0 : D) (a1 : Addr) (Q : QT [.bool]) (h :
Bel N x0 → ∀ N1, N ≤ N1 → ACalls prog 208 [.bool] [.dg 2 x0, .fn 209 []] N1 (fun b N2 => N1 ≤ N2 → ∀ N3, N2 ≤ N3 → Q (!b) N3)) : ACalls prog 236 [.bool] [.dg 2 x0, .pd a1 0 (.fn 209 [])] N Q :=
 eE (H := H_impl_allTypes_1) (by kernel_rfl) (by kernel_rfl) h
theorem w_impl_allTerms_1_i0 (N : Nat) (x0 : D) (a1 : Addr) (Q : QT [.bool]) (h :
Bel N x0 → ∀ N1, N ≤ N1 → ACalls prog 95 [.bool] [.dg 9 x0, .fn 187 []] N1 (fun b N2 => N1 ≤ N2 → ∀ N3, N2 ≤ N3 → Q (!b) N3)) : ACalls prog 142 [.bool] [.dg 9 x0, .pd a1 0 (.fn 187 [])] N Q :=
 eE (H := H_impl_allTerms_1) (by kernel_rfl) (by kernel_rfl) h

end Go.Proofs.YtfkmegifjiiclaaGreat
