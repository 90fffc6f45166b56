/- Printed by gen.py: what the functions come to. -/
import Derived.Test.YtfkmegifjiiclaaGreatJh
set_option linter.unusedVariables false
set_option maxRecDepth 100000
namespace Go.Proofs.YtfkmegifjiiclaaGreat
open Go Go.Proofs Go.Proofs.Tryz
def H_spec_l1In : Hint := ⟨[], [], []⟩
def H_spec_IsName : Hint := ⟨[hc 2 [0, 3]], [], []⟩
def H_spec_l3Left : Hint := ⟨[hc 3 [1, 2, 5]], [], [(5, hs 8 [ec 6 [23]])]⟩
def H_spec_l1Max : Hint := ⟨[], [], []⟩
def H_spec_DepthOfType : Hint := ⟨[hc 3 [1, 3, 4]], [], [(5, hs 9 [ec 6 [17]])]⟩
def H_spec_l3Form : Hint := ⟨[hc 2 [1, 3]], [], [(4, hs 7 [ec 5 [15]])]⟩
def H_spec_IsValidType : Hint := ⟨[], [], [(1, hs 13 [ec 1 [3], ec 5 [7], ec 10 [12]])]⟩
def H_spec_l5Zero : Hint := ⟨[], [], []⟩
def H_spec_OpArity : Hint := ⟨[], [], []⟩
def H_spec_l5Names : Hint := ⟨[], [], []⟩
def H_spec_l5Fields : Hint := ⟨[], [], [(2, hs 15 [ec 3 [15], ec 11 [23]]), (4, [en 0, en 1, en 2, en 3, en 4, ec 5 [32], en 6, en 7, en 8, en 9, en 10, en 11, en 12, en 13, ec 14 [41], en 15, en 16, en 17]), (12, hs 9 [ec 6 [57]])]⟩
def H_spec_l5Arity : Hint := ⟨[], [], []⟩
def H_spec_IsTerm : Hint := ⟨[hc 2 [1, 3]], [], [(4, hs 7 [ec 5 [15]]), (6, [en 0, ec 1 [18], en 2, en 3, en 4, en 5, en 6, ec 7 [24], en 8, en 9, en 10])]⟩
def H_spec_l8Next : Hint := ⟨[], [], []⟩
def H_spec_l9Last : Hint := ⟨[hc 2 [0, 1, 5]], [], []⟩
def H_spec_l3Copy : Hint := ⟨[hc 3 [1, 2, 3, 4]], [], [(5, [en 0, en 1, en 2, en 3, en 4, en 5, en 6, ec 7 [21], en 8, eh 9, en 10, eh 11])]⟩
def H_spec_l3Int : Hint := ⟨[], [], []⟩
def H_spec_l3Bool : Hint := ⟨[], [], []⟩
def H_spec_l9With : Hint := ⟨[], [], []⟩
def H_spec_l3Fun : Hint := ⟨[], [], [(1, [en 0, en 2, ec 1 [5], ec 3 [7], en 4, en 5, eh 6])]⟩
def H_spec_EqualType : Hint := ⟨[hc 4 [2, 3, 5]], [], [(6, [en 0, en 1, en 2, en 3, en 4, en 5, en 6, en 7, en 8, en 9, ec 10 [31, 36], en 11])]⟩
def H_spec_l9Bind : Hint := ⟨[], [], [(3, [en 0, en 1, en 2, en 3, en 4, en 5, en 7, en 8, en 9, en 10, en 11, en 16, ec 6 [26], ec 12 [32], en 13, en 14, en 15, eh 17, en 18]), (4, hs 7 [ec 3 [38, 39]]), (6, hs 13 [ec 6 [49]]), (9, [en 0, en 1, en 2, en 3, en 4, en 6, en 7, en 8, en 9, en 10, en 15, ec 5 [61], ec 11 [67], en 12, en 13, en 14, eh 16, en 17]), (11, hs 7 [ec 4 [75, 77]]), (12, [en 0, en 1, en 2, en 3, en 4, en 6, en 7, en 8, en 9, en 10, en 12, en 13, en 14, en 15, en 16, en 21, ec 5 [83], ec 11 [89], ec 17 [95], en 18, en 19, en 20, eh 22, en 23]), (13, [en 0, en 1, en 2, en 3, en 4, en 5, ec 6 [103, 105], en 7, eh 8, en 9])]⟩
def H_spec_IsBase : Hint := ⟨[], [], []⟩
def H_spec_SafeCtx : Hint := ⟨[hc 3 [0, 1, 5, 6] [(5, 97, 4)]], [], [(5, hs 26 [ec 5 [18]]), (6, [en 0, en 1, en 2, en 3, en 4, en 5, en 6, en 7, en 8, en 9, en 10, en 12, en 13, en 14, en 15, en 16, ec 11 [50], en 17, en 18, eh 19, eh 20])]⟩
def H_spec_l3Code : Hint := ⟨[], [], [(1, hs 5 [ec 1 [3]])]⟩
def H_spec_l9Stage : Hint := ⟨[], [], [(3, [en 0, en 1, en 2, en 3, en 4, en 5, en 6, en 12, ec 7 [22], ec 8 [21], en 9, en 10, en 11, eh 13, en 14]), (7, hs 4 [ec 1 [36]]), (9, [en 0, en 2, ec 1 [42], ec 3 [44], eh 4, en 5]), (11, hs 7 [ec 4 [53]])]⟩
def H_spec_l9Op : Hint := ⟨[hc 5 [0, 1, 4, 6, 7]], [], []⟩
def H_spec_l9Form : Hint := ⟨[], [], [(6, [en 0, en 1, en 2, en 3, en 4, en 5, en 6, en 7, en 8, en 9, en 10, en 11, en 12, en 13, en 14, ec 15 [34, 37], en 16, eh 17, en 18]), (7, [en 0, en 1, en 2, en 3, en 4, en 5, en 6, en 7, en 8, en 9, en 10, en 11, en 12, en 13, en 14, ec 15 [51, 54], en 16]), (8, hs 9 [ec 6 [62]])]⟩
def H_spec_l9Some : Hint := ⟨[hc 24 [0, 2, 4, 6, 13, 14] [(13, 33, 2)]], [], [(6, hs 8 [ec 5 [43]]), (14, hs 10 [ec 3 [57]]), (20, hs 10 [ec 3 [71]]), (26, hs 14 [ec 7 [92]]), (30, hs 9 [ec 2 [105]])]⟩
def H_spec_l9Type : Hint := ⟨[], [], [(1, hs 10 [ec 3 [12]]), (2, hs 7 [ec 4 [20]])]⟩
def L_spec_IsName_2 (Q : QT [.bool]) (N0 : Nat) (s0 : ByteArray) (n3 : Int) (N : Nat) : Prop := AT prog 134 [.bool] Q N0 .ord (loopAt prog 134 2) ⟨.str s0 :: an 2 (.int .i64 n3 :: an 58 []), [], N, none⟩
def L_spec_l3Left_3 (Q : QT [.int .i64]) (N0 : Nat) (n1 n5 : Int) (y0 : D) (N : Nat) : Prop := AT prog 183 [.int .i64] Q N0 .ord (loopAt prog 183 3) ⟨an 1 (.int .i64 n1 :: .pb 0 0 0 0 :: an 2 (.int .i64 n5 :: an 21 [])), [.vd y0 2], N, none⟩
def L_spec_DepthOfType_3 (Q : QT [.int .i64]) (N0 : Nat) (n3 n4 : Int) (y0 : D) (N : Nat) : Prop := AT prog 184 [.int .i64] Q N0 .ord (loopAt prog 184 3) ⟨an 1 (.pb 0 0 0 0 :: an 1 (.int .i64 n3 :: .int .i64 n4 :: an 17 [])), [.vd y0 2], N, none⟩
def L_spec_l3Form_2 (Q : QT [.bool]) (N0 : Nat) (n3 : Int) (y0 : D) (N : Nat) : Prop := AT prog 185 [.bool] Q N0 .ord (loopAt prog 185 2) ⟨an 1 (.pb 0 0 0 0 :: an 1 (.int .i64 n3 :: an 35 [])), [.vd y0 2], N, none⟩
def L_spec_IsTerm_2 (Q : QT [.bool]) (N0 : Nat) (n3 : Int) (y0 : D) (N : Nat) : Prop := AT prog 139 [.bool] Q N0 .ord (loopAt prog 139 2) ⟨an 1 (.pb 0 0 0 0 :: an 1 (.int .i64 n3 :: an 24 [])), [.vd y0 9], N, none⟩
def L_spec_l9Last_2 (Q : QT [.int .i64]) (N0 : Nat) (a0 : Option Addr) (e0 : List D) (c0 : Nat) (s1 : ByteArray) (n5 : Int) (N : Nat) : Prop := AT prog 177 [.int .i64] Q N0 .ord (loopAt prog 177 2) ⟨.sv a0 4 e0 c0 :: .str s1 :: an 3 (.int .i64 n5 :: an 15 []), [], N, none⟩
def L_spec_l3Copy_3 (Q : QT [.ag 2]) (N0 : Nat) (n4 : Int) (y0 : D) (n1_0 : Int) (a1_1 : Option Addr) (e1_1 : List D) (c1_1 : Nat) (n2_0 : Int) (a2_1 : Option Addr) (e2_1 : List D) (c2_1 : Nat) (N : Nat) : Prop := AT prog 109 [.ag 2] Q N0 .ord (loopAt prog 109 3) ⟨an 1 (.pb 0 0 0 0 :: .pb 1 0 0 0 :: .pb 2 0 0 0 :: .int .i64 n4 :: an 22 []), [.vd y0 2, .var [.int .i64 n1_0, .sv a1_1 2 e1_1 c1_1], .var [.int .i64 n2_0, .sv a2_1 2 e2_1 c2_1]], N, none⟩
def L_spec_EqualType_4 (Q : QT [.bool]) (N0 : Nat) (n5 : Int) (y0 y1 : D) (N : Nat) : Prop := AT prog 127 [.bool] Q N0 .ord (loopAt prog 127 4) ⟨an 2 (.pb 0 0 0 0 :: .pb 1 0 0 0 :: an 1 (.int .i64 n5 :: an 33 [])), [.vd y0 2, .vd y1 2], N, none⟩
def L_spec_SafeCtx_3 (Q : QT [.sl 4]) (N0 : Nat) (a0 : Option Addr) (e0 : List D) (c0 : Nat) (n1 : Int) (m5 c5 : Nat) (n6 : Int) (r0 : List D) (q0 : Nat) (N : Nat) : Prop := AT prog 223 [.sl 4] Q N0 .ord (loopAt prog 223 3) ⟨.sv a0 4 e0 c0 :: .int .i64 n1 :: an 3 (.sb 0 4 0 m5 c5 :: .int .i64 n6 :: an 54 []), [.arr 97 4 r0 q0], N, none⟩
def L_spec_l9Op_5 (Q : QT [.ag 2, .bool]) (N0 : Nat) (s0 : ByteArray) (a1 : Option Addr) (e1 : List D) (c1 : Nat) (n6 n7 n0_0 : Int) (a0_1 : Option Addr) (e0_1 : List D) (c0_1 : Nat) (N : Nat) : Prop := AT prog 226 [.ag 2, .bool] Q N0 .ord (loopAt prog 226 5) ⟨.str s0 :: .sv a1 2 e1 c1 :: an 2 (.pb 0 0 0 0 :: an 1 (.int .i64 n6 :: .int .i64 n7 :: an 36 [])), [.var [.int .i64 n0_0, .sv a0_1 2 e0_1 c0_1]], N, none⟩
def L_spec_l9Some_24 (Q : QT [.ag 2, .bool]) (N0 : Nat) (a0 : Option Addr) (e0 : List D) (c0 : Nat) (n2 : Int) (m13 c13 : Nat) (n14 : Int) (y0 : D) (n1_0 : Int) (a1_1 : Option Addr) (e1_1 : List D) (c1_1 : Nat) (r2 : List D) (q2 : Nat) (N : Nat) : Prop := AT prog 140 [.ag 2, .bool] Q N0 .ord (loopAt prog 140 24) ⟨.sv a0 4 e0 c0 :: an 1 (.int .i64 n2 :: an 1 (.pb 0 0 0 0 :: an 1 (.pb 1 0 0 0 :: an 6 (.sb 2 2 0 m13 c13 :: .int .i64 n14 :: an 97 [])))), [.vd y0 9, .var [.int .i64 n1_0, .sv a1_1 2 e1_1 c1_1], .arr 33 2 r2 q2], N, none⟩
def L_spec_l3Copy_3_v1 (Q : QT [.ag 2]) (N0 : Nat) (n4 : Int) (y0 : D) (n1_0 : Int) (a1_1 : Option Addr) (e1_1 : List D) (c1_1 : Nat) (n2_0 : Int) (m2_1 c2_1 : Nat) (r3 : List D) (q3 : Nat) (N : Nat) : Prop := AT prog 109 [.ag 2] Q N0 .ord (loopAt prog 109 3) ⟨an 1 (.pb 0 0 0 0 :: .pb 1 0 0 0 :: .pb 2 0 0 0 :: .int .i64 n4 :: an 22 []), [.vd y0 2, .var [.int .i64 n1_0, .sv a1_1 2 e1_1 c1_1], .var [.int .i64 n2_0, .sb 3 2 0 m2_1 c2_1], .arr 33 2 r3 q3], N, none⟩
theorem w_spec_l1In (N : Nat) (n0 n1 n2 : Int) (Q : QT [.bool]) (h :
Br (decide (n0 ≥ n1)) (∀ N1, N ≤ N1 → Q (decide (n0 ≤ n2)) N1) (∀ N2, N ≤ N2 → Q false N2)) : ACalls prog 113 [.bool] [PV.int .i64 n0, PV.int .i64 n1, PV.int .i64 n2] N Q :=
 eE (H := H_spec_l1In) (by kernel_rfl) (by kernel_rfl) h
theorem w_spec_IsName (N : Nat) (s0 : ByteArray) (Q : QT [.bool]) (h :
L_spec_IsName_2 Q N s0 0 N) : ACalls prog 134 [.bool] [PV.str s0] N Q :=
 eE (H := H_spec_IsName) (by kernel_rfl) (by kernel_rfl) h
theorem w_spec_l3Left (N : Nat) (x0 : D) (n1 : Int) (Q : QT [.int .i64]) (h :
Bel N x0 → L_spec_l3Left_3 Q N (IntKind.i64.wrap (n1 - 1)) 0 x0 N) : ACalls prog 183 [.int .i64] [PV.dg 2 x0, PV.int .i64 n1] N Q :=
 eE (H := H_spec_l3Left) (by kernel_rfl) (by kernel_rfl) h
theorem w_spec_l1Max (N : Nat) (n0 n1 : Int) (Q : QT [.int .i64]) (h :
Br (decide (n0 > n1)) (∀ N1, N ≤ N1 → Q n0 N1) (∀ N2, N ≤ N2 → Q n1 N2)) : ACalls prog 174 [.int .i64] [PV.int .i64 n0, PV.int .i64 n1] N Q :=
 eE (H := H_spec_l1Max) (by kernel_rfl) (by kernel_rfl) h
theorem w_spec_DepthOfType (N : Nat) (x0 : D) (Q : QT [.int .i64]) (h :
Bel N x0 → L_spec_DepthOfType_3 Q N 0 0 x0 N) : ACalls prog 184 [.int .i64] [PV.dg 2 x0] N Q :=
 eE (H := H_spec_DepthOfType) (by kernel_rfl) (by kernel_rfl) h
theorem w_spec_l3Form (N : Nat) (x0 : D) (Q : QT [.bool]) (h :
Bel N x0 → L_spec_l3Form_2 Q N 0 x0 N) : ACalls prog 185 [.bool] [PV.dg 2 x0] N Q :=
 eE (H := H_spec_l3Form) (by kernel_rfl) (by kernel_rfl) h
theorem w_spec_IsValidType (N : Nat) (x0 : D) (Q : QT [.bool]) (h :
Bel N x0 → ∀ N1, N ≤ N1 → ACalls prog 183 [.int .i64] [.dg 2 x0, .int .i64 30] N1 (fun n N2 => N1 ≤ N2 → Br (decide (n ≥ 0)) (∀ N3, N2 ≤ N3 → ACalls prog
 184 [.int .i64] [.dg 2 x0] N3 (fun n_1 N4 => N3 ≤ N4 → Br (decide (n_1 ≤ 8)) (∀ N5, N4 ≤ N5 → ACalls prog 185 [.bool] [.dg 2 x0] N5 (fun b N6 => N5 ≤ N6
 → ∀ N7, N6 ≤ N7 → Q b N7)) (∀ N8, N4 ≤ N8 → Q false N8))) (∀ N9, N2 ≤ N9 → Q false N9))) : ACalls prog 141 [.bool] [PV.dg 2 x0] N Q :=
  eE (H := H_spec_IsValidType) (by kernel_rfl) (by kernel_rfl) h
theorem w_spec_l5Zero (N : Nat) (x0 : D) (Q : QT [.bool]) (h :
Bel N x0 → ∃ n : Int, (x0.cell 0) = D.lit (.int .i64 n) ∧ Br (n == 0) (∃ a es, ∃ c : Nat, (x0.cell 1) = D.sl a 2 es c ∧ ∀ N1, N ≤ N1 → Q ((es.length : Int) ==
 0) N1) (∀ N2, N ≤ N2 → Q false N2)) : ACalls prog 219 [.bool] [PV.dg 2 x0] N Q :=
  eE (H := H_spec_l5Zero) (by kernel_rfl) (by kernel_rfl) h
theorem w_spec_OpArity (N : Nat) (s0 : ByteArray) (Q : QT [.int .i64]) (h :
Br (ByteArray.toList s0 == ByteArray.toList (bytes [43])) (∀ N1, N ≤ N1 → Q 2 N1) (Br (ByteArray.toList s0 == ByteArray.toList (bytes [45])) (∀ N2, N ≤ N2 →
 Q 2 N2) (Br (ByteArray.toList s0 == ByteArray.toList (bytes [42])) (∀ N3, N ≤ N3 → Q 2 N3) (Br (ByteArray.toList s0 == ByteArray.toList (bytes [61])) (∀ N4,
 N ≤ N4 → Q 2 N4) (Br (ByteArray.toList s0 == ByteArray.toList (bytes [60])) (∀ N5, N ≤ N5 → Q 2 N5) (Br (ByteArray.toList s0 == ByteArray.toList (bytes [38]))
 (∀ N6, N ≤ N6 → Q 2 N6) (Br (ByteArray.toList s0 == ByteArray.toList (bytes [124])) (∀ N7, N ≤ N7 → Q 2 N7) (Br (ByteArray.toList s0 == ByteArray.toList (bytes
 [33])) (∀ N8, N ≤ N8 → Q 1 N8) (∀ N9, N ≤ N9 → Q 0 N9))))))))) : ACalls prog 221 [.int .i64] [PV.str s0] N Q :=
  eE (H := H_spec_OpArity) (by kernel_rfl) (by kernel_rfl) h
theorem w_spec_l5Names (N : Nat) (x0 : D) (Q : QT [.bool]) (h :
Bel N x0 → ∃ n : Int, (x0.cell 0) = D.lit (.int .i64 n) ∧ Br (n == 4) (∃ s, (x0.cell 1) = D.lit (.string s) ∧ ∀ N1, N ≤ N1 → ACalls prog 221 [.int .i64] [.str
 s] N1 (fun n_1 N2 => N1 ≤ N2 → Br (decide (n_1 > 0)) (∃ s_1, (x0.cell 2) = D.lit (.string s_1) ∧ ∀ N3, N2 ≤ N3 → Q (ByteArray.toList s_1 == ByteArray.toList
 (bytes [])) N3) (∀ N4, N2 ≤ N4 → Q false N4))) (Br (n == 1) (∃ s_2, (x0.cell 1) = D.lit (.string s_2) ∧ ∀ N5, N ≤ N5 → ACalls prog 134 [.bool] [.str s_2]
 N5 (fun b N6 => N5 ≤ N6 → Br b (∃ s_3, (x0.cell 2) = D.lit (.string s_3) ∧ ∀ N7, N6 ≤ N7 → Q (ByteArray.toList s_3 == ByteArray.toList (bytes [])) N7) (∀
 N8, N6 ≤ N8 → Q false N8))) (Br (n == 6) (∃ s_4, (x0.cell 1) = D.lit (.string s_4) ∧ ∀ N9, N ≤ N9 → ACalls prog 134 [.bool] [.str s_4] N9 (fun b_1 N10 =>
 N9 ≤ N10 → Br b_1 (∃ s_5, (x0.cell 2) = D.lit (.string s_5) ∧ ∀ N11, N10 ≤ N11 → Q (ByteArray.toList s_5 == ByteArray.toList (bytes [])) N11) (∀ N12, N10
 ≤ N12 → Q false N12))) (Br (n == 8) (∃ s_6, (x0.cell 1) = D.lit (.string s_6) ∧ ∀ N13, N ≤ N13 → ACalls prog 134 [.bool] [.str s_6] N13 (fun b_2 N14 => N13
 ≤ N14 → Br b_2 (∃ s_7, (x0.cell 2) = D.lit (.string s_7) ∧ ∀ N15, N14 ≤ N15 → Q (ByteArray.toList s_7 == ByteArray.toList (bytes [])) N15) (∀ N16, N14 ≤ N16
 → Q false N16))) (Br (n == 9) (∃ s_8, (x0.cell 1) = D.lit (.string s_8) ∧ ∀ N17, N ≤ N17 → ACalls prog 134 [.bool] [.str s_8] N17 (fun b_3 N18 => N17 ≤ N18
 → Br b_3 (∃ s_9, (x0.cell 2) = D.lit (.string s_9) ∧ ∀ N19, N18 ≤ N19 → ACalls prog 134 [.bool] [.str s_9] N19 (fun b_4 N20 => N19 ≤ N20 → Br b_4 (∃ s_10,
 (x0.cell 1) = D.lit (.string s_10) ∧ ∃ s_11, (x0.cell 2) = D.lit (.string s_11) ∧ ∀ N21, N20 ≤ N21 → Q (!(ByteArray.toList s_10 == ByteArray.toList s_11)) N21)
 (∀ N22, N20 ≤ N22 → Q false N22))) (∀ N23, N18 ≤ N23 → Q false N23))) (∃ s_12, (x0.cell 1) = D.lit (.string s_12) ∧ Br (ByteArray.toList s_12 == ByteArray.toList
 (bytes [])) (∃ s_13, (x0.cell 2) = D.lit (.string s_13) ∧ ∀ N24, N ≤ N24 → Q (ByteArray.toList s_13 == ByteArray.toList (bytes [])) N24) (∀ N25, N ≤ N25 → Q
 false N25))))))) : ACalls prog 220 [.bool] [PV.dg 9 x0] N Q :=
  eE (H := H_spec_l5Names) (by kernel_rfl) (by kernel_rfl) h
theorem w_spec_l5Fields (N : Nat) (x0 : D) (Q : QT [.bool]) (h :
Bel N x0 → ∃ n : Int, (x0.cell 0) = D.lit (.int .i64 n) ∧ Br (n == 6) (∀ N1, N ≤ N1 → ACalls prog 141 [.bool] [.dg 2 (D.sub x0 4 2)] N1 (fun b N2 => N1 ≤ N2
 → Br (!(true == b)) (∀ N3, N2 ≤ N3 → Q false N3) (∃ n_1 : Int, (x0.cell 0) = D.lit (.int .i64 n_1) ∧ ∀ N4, N2 ≤ N4 → ACalls prog 141 [.bool] [.dg 2 (D.sub
 x0 6 2)] N4 (fun b_1 N5 => N4 ≤ N5 → Br (!((n_1 == 9) == b_1)) (∀ N6, N5 ≤ N6 → Q false N6) (∃ n_2 : Int, (x0.cell 0) = D.lit (.int .i64 n_2) ∧ Br (bne n_2
 9) (∀ N7, N5 ≤ N7 → ACalls prog 219 [.bool] [.dg 2 (D.sub x0 6 2)] N7 (fun b_2 N8 => N7 ≤ N8 → Br (!b_2) (∀ N9, N8 ≤ N9 → Q false N9) (∃ n_3 : Int, (x0.cell
 0) = D.lit (.int .i64 n_3) ∧ Br (n_3 == 2) (∃ n_4 : Int, (x0.cell 3) = D.lit (.int .i64 n_4) ∧ ∀ N10, N8 ≤ N10 → ACalls prog 113 [.bool] [.int .i64 n_4, .int
 .i64 0, .int .i64 10006] N10 (fun b_3 N11 => N10 ≤ N11 → Br b_3 (∀ N12, N11 ≤ N12 → ACalls prog 220 [.bool] [.dg 9 x0] N12 (fun b_4 N13 => N12 ≤ N13 →
 ∀ N14, N13 ≤ N14 → Q b_4 N14)) (∀ N15, N11 ≤ N15 → Q false N15))) (Br (n_3 == 3) (∃ n_5 : Int, (x0.cell 3) = D.lit (.int .i64 n_5) ∧ ∀ N16, N8 ≤ N16 →
 ACalls prog 113 [.bool] [.int .i64 n_5, .int .i64 0, .int .i64 1] N16 (fun b_5 N17 => N16 ≤ N17 → Br b_5 (∀ N18, N17 ≤ N18 → ACalls prog 220 [.bool] [.dg
 9 x0] N18 (fun b_6 N19 => N18 ≤ N19 → ∀ N20, N19 ≤ N20 → Q b_6 N20)) (∀ N21, N17 ≤ N21 → Q false N21))) (∃ n_6 : Int, (x0.cell 3) = D.lit (.int .i64
 n_6) ∧ ∀ N22, N8 ≤ N22 → ACalls prog 113 [.bool] [.int .i64 n_6, .int .i64 0, .int .i64 0] N22 (fun b_7 N23 => N22 ≤ N23 → Br b_7 (∀ N24, N23 ≤ N24 → ACalls
 prog 220 [.bool] [.dg 9 x0] N24 (fun b_8 N25 => N24 ≤ N25 → ∀ N26, N25 ≤ N26 → Q b_8 N26)) (∀ N27, N23 ≤ N27 → Q false N27))))))) (∃ n_7 : Int, (x0.cell
 0) = D.lit (.int .i64 n_7) ∧ Br (n_7 == 2) (∃ n_8 : Int, (x0.cell 3) = D.lit (.int .i64 n_8) ∧ ∀ N28, N5 ≤ N28 → ACalls prog 113 [.bool] [.int .i64 n_8, .int
 .i64 0, .int .i64 10006] N28 (fun b_9 N29 => N28 ≤ N29 → Br b_9 (∀ N30, N29 ≤ N30 → ACalls prog 220 [.bool] [.dg 9 x0] N30 (fun b_10 N31 => N30 ≤ N31
 → ∀ N32, N31 ≤ N32 → Q b_10 N32)) (∀ N33, N29 ≤ N33 → Q false N33))) (Br (n_7 == 3) (∃ n_9 : Int, (x0.cell 3) = D.lit (.int .i64 n_9) ∧ ∀ N34, N5 ≤ N34
 → ACalls prog 113 [.bool] [.int .i64 n_9, .int .i64 0, .int .i64 1] N34 (fun b_11 N35 => N34 ≤ N35 → Br b_11 (∀ N36, N35 ≤ N36 → ACalls prog 220 [.bool] [.dg
 9 x0] N36 (fun b_12 N37 => N36 ≤ N37 → ∀ N38, N37 ≤ N38 → Q b_12 N38)) (∀ N39, N35 ≤ N39 → Q false N39))) (∃ n_10 : Int, (x0.cell 3) = D.lit (.int .i64
 n_10) ∧ ∀ N40, N5 ≤ N40 → ACalls prog 113 [.bool] [.int .i64 n_10, .int .i64 0, .int .i64 0] N40 (fun b_13 N41 => N40 ≤ N41 → Br b_13 (∀ N42, N41 ≤ N42
 → ACalls prog 220 [.bool] [.dg 9 x0] N42 (fun b_14 N43 => N42 ≤ N43 → ∀ N44, N43 ≤ N44 → Q b_14 N44)) (∀ N45, N41 ≤ N45 → Q false N45)))))))))) (∃ n_11
 : Int, (x0.cell 0) = D.lit (.int .i64 n_11) ∧ ∀ N46, N ≤ N46 → ACalls prog 141 [.bool] [.dg 2 (D.sub x0 4 2)] N46 (fun b_15 N47 => N46 ≤ N47 → Br (!((n_11
 == 9) == b_15)) (∀ N48, N47 ≤ N48 → Q false N48) (Br (!(n_11 == 9)) (∀ N49, N47 ≤ N49 → ACalls prog 219 [.bool] [.dg 2 (D.sub x0 4 2)] N49 (fun b_16 N50
 => N49 ≤ N50 → Br (!b_16) (∀ N51, N50 ≤ N51 → Q false N51) (∃ n_12 : Int, (x0.cell 0) = D.lit (.int .i64 n_12) ∧ ∀ N52, N50 ≤ N52 → ACalls prog 141 [.bool]
 [.dg 2 (D.sub x0 6 2)] N52 (fun b_17 N53 => N52 ≤ N53 → Br (!((n_12 == 9) == b_17)) (∀ N54, N53 ≤ N54 → Q false N54) (∃ n_13 : Int, (x0.cell 0) = D.lit (.int
 .i64 n_13) ∧ Br (bne n_13 9) (∀ N55, N53 ≤ N55 → ACalls prog 219 [.bool] [.dg 2 (D.sub x0 6 2)] N55 (fun b_18 N56 => N55 ≤ N56 → Br (!b_18) (∀ N57, N56
 ≤ N57 → Q false N57) (∃ n_14 : Int, (x0.cell 0) = D.lit (.int .i64 n_14) ∧ Br (n_14 == 2) (∃ n_15 : Int, (x0.cell 3) = D.lit (.int .i64 n_15) ∧ ∀ N58, N56 ≤
 N58 → ACalls prog 113 [.bool] [.int .i64 n_15, .int .i64 0, .int .i64 10006] N58 (fun b_19 N59 => N58 ≤ N59 → Br b_19 (∀ N60, N59 ≤ N60 → ACalls prog 220
 [.bool] [.dg 9 x0] N60 (fun b_20 N61 => N60 ≤ N61 → ∀ N62, N61 ≤ N62 → Q b_20 N62)) (∀ N63, N59 ≤ N63 → Q false N63))) (Br (n_14 == 3) (∃ n_16 : Int,
 (x0.cell 3) = D.lit (.int .i64 n_16) ∧ ∀ N64, N56 ≤ N64 → ACalls prog 113 [.bool] [.int .i64 n_16, .int .i64 0, .int .i64 1] N64 (fun b_21 N65 => N64 ≤ N65
 → Br b_21 (∀ N66, N65 ≤ N66 → ACalls prog 220 [.bool] [.dg 9 x0] N66 (fun b_22 N67 => N66 ≤ N67 → ∀ N68, N67 ≤ N68 → Q b_22 N68)) (∀ N69, N65 ≤ N69
 → Q false N69))) (∃ n_17 : Int, (x0.cell 3) = D.lit (.int .i64 n_17) ∧ ∀ N70, N56 ≤ N70 → ACalls prog 113 [.bool] [.int .i64 n_17, .int .i64 0, .int .i64 0]
 N70 (fun b_23 N71 => N70 ≤ N71 → Br b_23 (∀ N72, N71 ≤ N72 → ACalls prog 220 [.bool] [.dg 9 x0] N72 (fun b_24 N73 => N72 ≤ N73 → ∀ N74, N73 ≤ N74 →
 Q b_24 N74)) (∀ N75, N71 ≤ N75 → Q false N75))))))) (∃ n_18 : Int, (x0.cell 0) = D.lit (.int .i64 n_18) ∧ Br (n_18 == 2) (∃ n_19 : Int, (x0.cell 3) = D.lit
 (.int .i64 n_19) ∧ ∀ N76, N53 ≤ N76 → ACalls prog 113 [.bool] [.int .i64 n_19, .int .i64 0, .int .i64 10006] N76 (fun b_25 N77 => N76 ≤ N77 → Br b_25 (∀ N78,
 N77 ≤ N78 → ACalls prog 220 [.bool] [.dg 9 x0] N78 (fun b_26 N79 => N78 ≤ N79 → ∀ N80, N79 ≤ N80 → Q b_26 N80)) (∀ N81, N77 ≤ N81 → Q false N81)))
 (Br (n_18 == 3) (∃ n_20 : Int, (x0.cell 3) = D.lit (.int .i64 n_20) ∧ ∀ N82, N53 ≤ N82 → ACalls prog 113 [.bool] [.int .i64 n_20, .int .i64 0, .int .i64 1] N82
 (fun b_27 N83 => N82 ≤ N83 → Br b_27 (∀ N84, N83 ≤ N84 → ACalls prog 220 [.bool] [.dg 9 x0] N84 (fun b_28 N85 => N84 ≤ N85 → ∀ N86, N85 ≤ N86 → Q b_28
 N86)) (∀ N87, N83 ≤ N87 → Q false N87))) (∃ n_21 : Int, (x0.cell 3) = D.lit (.int .i64 n_21) ∧ ∀ N88, N53 ≤ N88 → ACalls prog 113 [.bool] [.int .i64 n_21,
 .int .i64 0, .int .i64 0] N88 (fun b_29 N89 => N88 ≤ N89 → Br b_29 (∀ N90, N89 ≤ N90 → ACalls prog 220 [.bool] [.dg 9 x0] N90 (fun b_30 N91 => N90 ≤ N91
 → ∀ N92, N91 ≤ N92 → Q b_30 N92)) (∀ N93, N89 ≤ N93 → Q false N93)))))))))) (∃ n_22 : Int, (x0.cell 0) = D.lit (.int .i64 n_22) ∧ ∀ N94, N47 ≤ N94 → ACalls
 prog 141 [.bool] [.dg 2 (D.sub x0 6 2)] N94 (fun b_31 N95 => N94 ≤ N95 → Br (!((n_22 == 9) == b_31)) (∀ N96, N95 ≤ N96 → Q false N96) (∃ n_23 : Int, (x0.cell
 0) = D.lit (.int .i64 n_23) ∧ Br (bne n_23 9) (∀ N97, N95 ≤ N97 → ACalls prog 219 [.bool] [.dg 2 (D.sub x0 6 2)] N97 (fun b_32 N98 => N97 ≤ N98 → Br (!b_32)
 (∀ N99, N98 ≤ N99 → Q false N99) (∃ n_24 : Int, (x0.cell 0) = D.lit (.int .i64 n_24) ∧ Br (n_24 == 2) (∃ n_25 : Int, (x0.cell 3) = D.lit (.int .i64 n_25) ∧ ∀
 N100, N98 ≤ N100 → ACalls prog 113 [.bool] [.int .i64 n_25, .int .i64 0, .int .i64 10006] N100 (fun b_33 N101 => N100 ≤ N101 → Br b_33 (∀ N102, N101 ≤ N102
 → ACalls prog 220 [.bool] [.dg 9 x0] N102 (fun b_34 N103 => N102 ≤ N103 → ∀ N104, N103 ≤ N104 → Q b_34 N104)) (∀ N105, N101 ≤ N105 → Q false N105)))
 (Br (n_24 == 3) (∃ n_26 : Int, (x0.cell 3) = D.lit (.int .i64 n_26) ∧ ∀ N106, N98 ≤ N106 → ACalls prog 113 [.bool] [.int .i64 n_26, .int .i64 0, .int .i64 1]
 N106 (fun b_35 N107 => N106 ≤ N107 → Br b_35 (∀ N108, N107 ≤ N108 → ACalls prog 220 [.bool] [.dg 9 x0] N108 (fun b_36 N109 => N108 ≤ N109 → ∀ N110, N109
 ≤ N110 → Q b_36 N110)) (∀ N111, N107 ≤ N111 → Q false N111))) (∃ n_27 : Int, (x0.cell 3) = D.lit (.int .i64 n_27) ∧ ∀ N112, N98 ≤ N112 → ACalls prog 113
 [.bool] [.int .i64 n_27, .int .i64 0, .int .i64 0] N112 (fun b_37 N113 => N112 ≤ N113 → Br b_37 (∀ N114, N113 ≤ N114 → ACalls prog 220 [.bool] [.dg 9 x0]
 N114 (fun b_38 N115 => N114 ≤ N115 → ∀ N116, N115 ≤ N116 → Q b_38 N116)) (∀ N117, N113 ≤ N117 → Q false N117))))))) (∃ n_28 : Int, (x0.cell 0) = D.lit
 (.int .i64 n_28) ∧ Br (n_28 == 2) (∃ n_29 : Int, (x0.cell 3) = D.lit (.int .i64 n_29) ∧ ∀ N118, N95 ≤ N118 → ACalls prog 113 [.bool] [.int .i64 n_29, .int .i64
 0, .int .i64 10006] N118 (fun b_39 N119 => N118 ≤ N119 → Br b_39 (∀ N120, N119 ≤ N120 → ACalls prog 220 [.bool] [.dg 9 x0] N120 (fun b_40 N121 => N120
 ≤ N121 → ∀ N122, N121 ≤ N122 → Q b_40 N122)) (∀ N123, N119 ≤ N123 → Q false N123))) (Br (n_28 == 3) (∃ n_30 : Int, (x0.cell 3) = D.lit (.int .i64 n_30)
 ∧ ∀ N124, N95 ≤ N124 → ACalls prog 113 [.bool] [.int .i64 n_30, .int .i64 0, .int .i64 1] N124 (fun b_41 N125 => N124 ≤ N125 → Br b_41 (∀ N126, N125 ≤ N126
 → ACalls prog 220 [.bool] [.dg 9 x0] N126 (fun b_42 N127 => N126 ≤ N127 → ∀ N128, N127 ≤ N128 → Q b_42 N128)) (∀ N129, N125 ≤ N129 → Q false N129)))
 (∃ n_31 : Int, (x0.cell 3) = D.lit (.int .i64 n_31) ∧ ∀ N130, N95 ≤ N130 → ACalls prog 113 [.bool] [.int .i64 n_31, .int .i64 0, .int .i64 0] N130 (fun b_43
 N131 => N130 ≤ N131 → Br b_43 (∀ N132, N131 ≤ N132 → ACalls prog 220 [.bool] [.dg 9 x0] N132 (fun b_44 N133 => N132 ≤ N133 → ∀ N134, N133 ≤ N134 → Q
 b_44 N134)) (∀ N135, N131 ≤ N135 → Q false N135)))))))))))) : ACalls prog 175 [.bool] [PV.dg 9 x0] N Q :=
  eE (H := H_spec_l5Fields) (by kernel_rfl) (by kernel_rfl) h
theorem w_spec_l5Arity (N : Nat) (x0 : D) (Q : QT [.int .i64]) (h :
Bel N x0 → ∃ n : Int, (x0.cell 0) = D.lit (.int .i64 n) ∧ Br (n == 1) (∀ N1, N ≤ N1 → Q 0 N1) (Br (n == 2) (∀ N2, N ≤ N2 → Q 0 N2) (Br (n == 3) (∀ N3, N ≤
 N3 → Q 0 N3) (Br (n == 4) (∃ s, (x0.cell 1) = D.lit (.string s) ∧ ∀ N4, N ≤ N4 → ACalls prog 221 [.int .i64] [.str s] N4 (fun n_1 N5 => N4 ≤ N5 → ∀ N6,
 N5 ≤ N6 → Q n_1 N6)) (Br (n == 6) (∀ N7, N ≤ N7 → Q 1 N7) (Br (n == 9) (∀ N8, N ≤ N8 → Q 1 N8) (Br (n == 10) (∀ N9, N ≤ N9 → Q 1 N9) (Br (n == 11) (∀
 N10, N ≤ N10 → Q 1 N10) (Br (n == 12) (∀ N11, N ≤ N11 → Q 1 N11) (Br (n == 13) (∀ N12, N ≤ N12 → Q 1 N12) (Br (n == 7) (∀ N13, N ≤ N13 → Q 2 N13) (Br
 (n == 8) (∀ N14, N ≤ N14 → Q 2 N14) (Br (n == 5) (∀ N15, N ≤ N15 → Q 3 N15) (∀ N16, N ≤ N16 → Q (-1) N16)))))))))))))) : ACalls prog 176 [.int .i64] [PV.dg 9 x0] N Q :=
  eE (H := H_spec_l5Arity) (by kernel_rfl) (by kernel_rfl) h
theorem w_spec_IsTerm (N : Nat) (x0 : D) (Q : QT [.bool]) (h :
Bel N x0 → L_spec_IsTerm_2 Q N 0 x0 N) : ACalls prog 139 [.bool] [PV.dg 9 x0] N Q :=
 eE (H := H_spec_IsTerm) (by kernel_rfl) (by kernel_rfl) h
theorem w_spec_l8Next (N : Nat) (x0 : D) (n1 : Int) (Q : QT [.int .i64]) (h :
Bel N x0 → ∃ n : Int, (x0.cell 0) = D.lit (.int .i64 n) ∧ Br (n == 10) (∀ N1, N ≤ N1 → Q (IntKind.i64.wrap (n1 + 1)) N1) (Br (n == 11) (∀ N2, N ≤ N2 → Q (IntKind.i64.wrap
 (n1 - 1)) N2) (∀ N3, N ≤ N3 → Q n1 N3))) : ACalls prog 224 [.int .i64] [PV.dg 9 x0, PV.int .i64 n1] N Q :=
  eE (H := H_spec_l8Next) (by kernel_rfl) (by kernel_rfl) h
theorem w_spec_l9Last (N : Nat) (a0 : Option Addr) (e0 : List D) (c0 : Nat) (s1 : ByteArray) (Q : QT [.int .i64]) (h :
Bel N (D.sl a0 4 e0 c0) → L_spec_l9Last_2 Q N a0 e0 c0 s1 (IntKind.i64.wrap ((e0.length : Int) - 1)) N) : ACalls prog 177 [.int .i64] [PV.sv a0 4 e0 c0, PV.str s1] N Q :=
 eE (H := H_spec_l9Last) (by kernel_rfl) (by kernel_rfl) h
theorem w_spec_l3Copy (N : Nat) (x0 : D) (Q : QT [.ag 2]) (h :
Bel N x0 → ∃ n : Int, (x0.cell 0) = D.lit (.int .i64 n) ∧ L_spec_l3Copy_3 Q N 0 x0 0 Option.none [] 0 n Option.none [] 0 N) : ACalls prog 109 [.ag 2] [PV.dg 2 x0] N Q :=
 eE (H := H_spec_l3Copy) (by kernel_rfl) (by kernel_rfl) h
theorem w_spec_l3Int (N : Nat)  (Q : QT [.ag 2]) (h :
∀ N1, N ≤ N1 → Q (D.ag [D.lit (.int .i64 1), D.sl Option.none 2 [] 0]) N1) : ACalls prog 178 [.ag 2] [] N Q :=
  eE (H := H_spec_l3Int) (by kernel_rfl) (by kernel_rfl) h
theorem w_spec_l3Bool (N : Nat)  (Q : QT [.ag 2]) (h :
∀ N1, N ≤ N1 → Q (D.ag [D.lit (.int .i64 2), D.sl Option.none 2 [] 0]) N1) : ACalls prog 179 [.ag 2] [] N Q :=
  eE (H := H_spec_l3Bool) (by kernel_rfl) (by kernel_rfl) h
theorem w_spec_l9With (N : Nat) (a0 : Option Addr) (e0 : List D) (c0 : Nat) (s1 : ByteArray) (x2 : D) (n3 : Int) (Q : QT [.sl 4]) (h :
Bel N (D.sl a0 4 e0 c0) → Bel N x2 → (0 = 0 ∧ 0 = 0) ∧ apBound [] e0 56 ∧ ∀ (c : Nat), (([] ++ e0).length = ([] ++ e0).length ∧ c = c) ∧ apBound ([] ++ e0) [D.ag
 [D.lit (.string s1), (x2.cell 0), (x2.cell 1), D.lit (.int .i64 n3)]] 56 ∧ ∀ (c_1 : Nat), ((([] ++ e0) ++ [D.ag [D.lit (.string s1), (x2.cell 0), (x2.cell 1), D.lit
 (.int .i64 n3)]]).length = (([] ++ e0) ++ [D.ag [D.lit (.string s1), (x2.cell 0), (x2.cell 1), D.lit (.int .i64 n3)]]).length ∧ c_1 = c_1) ∧ ((([] ++ e0) ++ [D.ag
 [D.lit (.string s1), (x2.cell 0), (x2.cell 1), D.lit (.int .i64 n3)]]).length = (([] ++ e0) ++ [D.ag [D.lit (.string s1), (x2.cell 0), (x2.cell 1), D.lit (.int .i64
 n3)]]).length ∧ c_1 = c_1) ∧ ∀ a N1, N ≤ N1 → Fresh N N1 a [D.ag (([] ++ e0) ++ [D.ag [D.lit (.string s1), (x2.cell 0), (x2.cell 1), D.lit (.int .i64 n3)]])]
 → ∀ N2, N1 ≤ N2 → Q a (([] ++ e0) ++ [D.ag [D.lit (.string s1), (x2.cell 0), (x2.cell 1), D.lit (.int .i64 n3)]]) c_1 N2) : ACalls prog 156 [.sl 4] [PV.sv a0 4 e0 c0, PV.str s1, PV.dg 2 x2, PV.int .i64 n3] N Q :=
  eE (H := H_spec_l9With) (by kernel_rfl) (by kernel_rfl) h
theorem w_spec_l3Fun (N : Nat) (x0 x1 : D) (Q : QT [.ag 2]) (h :
Bel N x0 → Bel N x1 → ∀ N1, N ≤ N1 → ACalls prog 109 [.ag 2] [.dg 2 x0] N1 (fun x N2 => N1 ≤ N2 → Bel N2 x → ∀ N3, N2 ≤ N3 → ACalls prog 109 [.ag 2] [.dg
 2 x1] N3 (fun x_1 N4 => N3 ≤ N4 → Bel N4 x_1 → (2 = ([x, x_1]).length ∧ 2 = 2) ∧ (2 = ([x, x_1]).length ∧ 2 = 2) ∧ (2 = ([x, x_1]).length ∧ 2 = 2) ∧ ∀ a N5,
 N4 ≤ N5 → Fresh N N5 a [D.ag [x, x_1]] → ∀ N6, N5 ≤ N6 → Q (D.ag [D.lit (.int .i64 3), D.sl a 2 [x, x_1] 2]) N6))) : ACalls prog 222 [.ag 2] [PV.dg 2 x0, PV.dg 2 x1] N Q :=
  eE (H := H_spec_l3Fun) (by kernel_rfl) (by kernel_rfl) h
theorem w_spec_EqualType (N : Nat) (x0 x1 : D) (Q : QT [.bool]) (h :
Bel N x0 → Bel N x1 → ∃ n : Int, (x0.cell 0) = D.lit (.int .i64 n) ∧ ∃ n_1 : Int, (x1.cell 0) = D.lit (.int .i64 n_1) ∧ Br (bne n n_1) (∀ N1, N ≤ N1 → Q false
 N1) (∃ a es, ∃ c : Nat, (x0.cell 1) = D.sl a 2 es c ∧ ∃ a_1 es_1, ∃ c_1 : Nat, (x1.cell 1) = D.sl a_1 2 es_1 c_1 ∧ Br (bne (es.length : Int) (es_1.length : Int))
 (∀ N2, N ≤ N2 → Q false N2) (L_spec_EqualType_4 Q N 0 x0 x1 N))) : ACalls prog 127 [.bool] [PV.dg 2 x0, PV.dg 2 x1] N Q :=
  eE (H := H_spec_EqualType) (by kernel_rfl) (by kernel_rfl) h
theorem w_spec_l9Bind (N : Nat) (a0 : Option Addr) (e0 : List D) (c0 : Nat) (x1 : D) (n2 : Int) (Q : QT [.ag 2, .bool]) (h :
Bel N (D.sl a0 4 e0 c0) → Bel N x1 → ∃ n : Int, (x1.cell 0) = D.lit (.int .i64 n) ∧ Br (n == 6) (∃ s, (x1.cell 1) = D.lit (.string s) ∧ ∃ a es, ∃ c : Nat, (x1.cell
 8) = D.sl a 9 es c ∧ ((0 : Int) ≤ (0 : Int) ∧ 0 < (es.length : Int)) ∧ ∀ N1, N ≤ N1 → ACalls prog 156 [.sl 4] [.sv a0 4 e0 c0, .str s, .dg 2 (D.sub x1 4 2), .int
 .i64 n2] N1 (fun a_1 es_1 c_1 N2 => N1 ≤ N2 → Bel N2 (D.sl a_1 4 es_1 c_1) → ∀ N3, N2 ≤ N3 → ACalls prog 88 [.ag 2, .bool] [.sv a_1 4 es_1 c_1, .dg 9 (List.getD
 es 0 default), .int .i64 n2] N3 (fun x b N4 => N3 ≤ N4 → Bel N4 x → ∀ N5, N4 ≤ N5 → ACalls prog 222 [.ag 2] [.dg 2 (D.sub x1 4 2), .dg 2 x] N5 (fun x_1
 N6 => N5 ≤ N6 → Bel N6 x_1 → ∀ N7, N6 ≤ N7 → Q x_1 b N7)))) (Br (n == 8) (∃ a_2 es_2, ∃ c_2 : Nat, (x1.cell 8) = D.sl a_2 9 es_2 c_2 ∧ ((0 : Int) ≤ (0 :
 Int) ∧ 0 < (es_2.length : Int)) ∧ ∀ N8, N ≤ N8 → ACalls prog 88 [.ag 2, .bool] [.sv a0 4 e0 c0, .dg 9 (List.getD es_2 0 default), .int .i64 n2] N8 (fun x_2 b_1
 N9 => N8 ≤ N9 → Bel N9 x_2 → Br (!b_1) (∀ N10, N9 ≤ N10 → Q (D.ag [D.lit (.int .i64 0), D.sl Option.none 2 [] 0]) false N10) (∃ s_1, (x1.cell 1) = D.lit
 (.string s_1) ∧ ∃ a_3 es_3, ∃ c_3 : Nat, (x1.cell 8) = D.sl a_3 9 es_3 c_3 ∧ ((0 : Int) ≤ (1 : Int) ∧ 1 < (es_3.length : Int)) ∧ ∀ N11, N9 ≤ N11 → ACalls prog
 156 [.sl 4] [.sv a0 4 e0 c0, .str s_1, .dg 2 x_2, .int .i64 n2] N11 (fun a_4 es_4 c_4 N12 => N11 ≤ N12 → Bel N12 (D.sl a_4 4 es_4 c_4) → ∀ N13, N12 ≤ N13
 → ACalls prog 88 [.ag 2, .bool] [.sv a_4 4 es_4 c_4, .dg 9 (List.getD es_3 1 default), .int .i64 n2] N13 (fun x_3 b_2 N14 => N13 ≤ N14 → Bel N14 x_3 → ∀ N15,
 N14 ≤ N15 → Q x_3 b_2 N15))))) (∀ N16, N ≤ N16 → ACalls prog 222 [.ag 2] [.dg 2 (D.sub x1 4 2), .dg 2 (D.sub x1 6 2)] N16 (fun x_4 N17 => N16 ≤ N17 → Bel
 N17 x_4 → ∃ s_2, (x1.cell 1) = D.lit (.string s_2) ∧ ∃ s_3, (x1.cell 2) = D.lit (.string s_3) ∧ ∃ a_5 es_5, ∃ c_5 : Nat, (x1.cell 8) = D.sl a_5 9 es_5 c_5 ∧ ((0
 : Int) ≤ (0 : Int) ∧ 0 < (es_5.length : Int)) ∧ ∀ N18, N17 ≤ N18 → ACalls prog 156 [.sl 4] [.sv a0 4 e0 c0, .str s_2, .dg 2 x_4, .int .i64 n2] N18 (fun a_6 es_6
 c_6 N19 => N18 ≤ N19 → Bel N19 (D.sl a_6 4 es_6 c_6) → ∀ N20, N19 ≤ N20 → ACalls prog 156 [.sl 4] [.sv a_6 4 es_6 c_6, .str s_3, .dg 2 (D.sub x1 4 2), .int
 .i64 n2] N20 (fun a_7 es_7 c_7 N21 => N20 ≤ N21 → Bel N21 (D.sl a_7 4 es_7 c_7) → ∀ N22, N21 ≤ N22 → ACalls prog 88 [.ag 2, .bool] [.sv a_7 4 es_7 c_7, .dg
 9 (List.getD es_5 0 default), .int .i64 n2] N22 (fun x_5 b_3 N23 => N22 ≤ N23 → Bel N23 x_5 → Br b_3 (∀ N24, N23 ≤ N24 → ACalls prog 127 [.bool] [.dg 2 x_5,
 .dg 2 (D.sub x1 6 2)] N24 (fun b_4 N25 => N24 ≤ N25 → ∀ N26, N25 ≤ N26 → Q x_4 b_4 N26)) (∀ N27, N23 ≤ N27 → Q x_4 false N27)))))))) : ACalls prog 180 [.ag 2, .bool] [PV.sv a0 4 e0 c0, PV.dg 9 x1, PV.int .i64 n2] N Q :=
  eE (H := H_spec_l9Bind) (by kernel_rfl) (by kernel_rfl) h
theorem w_spec_IsBase (N : Nat) (x0 : D) (Q : QT [.bool]) (h :
Bel N x0 → ∃ n : Int, (x0.cell 0) = D.lit (.int .i64 n) ∧ Br (n == 1) (∃ a es, ∃ c : Nat, (x0.cell 1) = D.sl a 2 es c ∧ ∀ N1, N ≤ N1 → Q ((es.length : Int) ==
 0) N1) (∃ n_1 : Int, (x0.cell 0) = D.lit (.int .i64 n_1) ∧ Br (n_1 == 2) (∃ a_1 es_1, ∃ c_1 : Nat, (x0.cell 1) = D.sl a_1 2 es_1 c_1 ∧ ∀ N2, N ≤ N2 → Q ((es_1.length
 : Int) == 0) N2) (∀ N3, N ≤ N3 → Q false N3))) : ACalls prog 135 [.bool] [PV.dg 2 x0] N Q :=
  eE (H := H_spec_IsBase) (by kernel_rfl) (by kernel_rfl) h
theorem w_spec_SafeCtx (N : Nat) (a0 : Option Addr) (e0 : List D) (c0 : Nat) (n1 : Int) (Q : QT [.sl 4]) (h :
Bel N (D.sl a0 4 e0 c0) → L_spec_SafeCtx_3 Q N a0 e0 c0 n1 0 0 0 [] 0 N) : ACalls prog 223 [.sl 4] [PV.sv a0 4 e0 c0, PV.int .i64 n1] N Q :=
 eE (H := H_spec_SafeCtx) (by kernel_rfl) (by kernel_rfl) h
theorem w_spec_l3Code (N : Nat) (x0 : D) (Q : QT [.ag 2]) (h :
Bel N x0 → ∀ N1, N ≤ N1 → ACalls prog 109 [.ag 2] [.dg 2 x0] N1 (fun x N2 => N1 ≤ N2 → Bel N2 x → (1 = ([x]).length ∧ 1 = 1) ∧ (1 = ([x]).length ∧ 1 = 1)
 ∧ (1 = ([x]).length ∧ 1 = 1) ∧ ∀ a N3, N2 ≤ N3 → Fresh N N3 a [D.ag [x]] → ∀ N4, N3 ≤ N4 → Q (D.ag [D.lit (.int .i64 4), D.sl a 2 [x] 1]) N4)) : ACalls prog 225 [.ag 2] [PV.dg 2 x0] N Q :=
  eE (H := H_spec_l3Code) (by kernel_rfl) (by kernel_rfl) h
theorem w_spec_l9Stage (N : Nat) (a0 : Option Addr) (e0 : List D) (c0 : Nat) (x1 : D) (n2 : Int) (Q : QT [.ag 2, .bool]) (h :
Bel N (D.sl a0 4 e0 c0) → Bel N x1 → ∃ n : Int, (x1.cell 0) = D.lit (.int .i64 n) ∧ Br (n == 12) (∀ N1, N ≤ N1 → ACalls prog 223 [.sl 4] [.sv a0 4 e0 c0, .int
 .i64 n2] N1 (fun a es c N2 => N1 ≤ N2 → Bel N2 (D.sl a 4 es c) → ∃ a_1 es_1, ∃ c_1 : Nat, (x1.cell 8) = D.sl a_1 9 es_1 c_1 ∧ ((0 : Int) ≤ (0 : Int) ∧ 0 < (es_1.length
 : Int)) ∧ ∀ N3, N2 ≤ N3 → ACalls prog 224 [.int .i64] [.dg 9 x1, .int .i64 n2] N3 (fun n_1 N4 => N3 ≤ N4 → ∀ N5, N4 ≤ N5 → ACalls prog 88 [.ag 2, .bool]
 [.sv a 4 es c, .dg 9 (List.getD es_1 0 default), .int .i64 n_1] N5 (fun x b N6 => N5 ≤ N6 → Bel N6 x → Br (!b) (∀ N7, N6 ≤ N7 → Q (D.ag [D.lit (.int .i64
 0), D.sl Option.none 2 [] 0]) false N7) (∃ n_2 : Int, (x1.cell 0) = D.lit (.int .i64 n_2) ∧ Br (n_2 == 10) (∀ N8, N6 ≤ N8 → ACalls prog 225 [.ag 2] [.dg 2 x]
 N8 (fun x_1 N9 => N8 ≤ N9 → Bel N9 x_1 → ∀ N10, N9 ≤ N10 → Q x_1 true N10)) (∃ n_3 : Int, (x1.cell 0) = D.lit (.int .i64 n_3) ∧ Br (n_3 == 13) (∀ N11,
 N6 ≤ N11 → ACalls prog 225 [.ag 2] [.dg 2 x] N11 (fun x_2 N12 => N11 ≤ N12 → Bel N12 x_2 → ∀ N13, N12 ≤ N13 → ACalls prog 135 [.bool] [.dg 2 x] N13 (fun
 b_1 N14 => N13 ≤ N14 → ∀ N15, N14 ≤ N15 → Q x_2 b_1 N15))) (∃ n_4 : Int, (x.cell 0) = D.lit (.int .i64 n_4) ∧ Br (n_4 == 4) (∃ a_2 es_2, ∃ c_2 : Nat, (x.cell
 1) = D.sl a_2 2 es_2 c_2 ∧ ((0 : Int) ≤ (0 : Int) ∧ 0 < (es_2.length : Int)) ∧ ∀ N16, N6 ≤ N16 → ACalls prog 109 [.ag 2] [.dg 2 (List.getD es_2 0 default)] N16
 (fun x_3 N17 => N16 ≤ N17 → Bel N17 x_3 → ∀ N18, N17 ≤ N18 → Q x_3 true N18)) (∀ N19, N6 ≤ N19 → Q (D.ag [D.lit (.int .i64 0), D.sl Option.none 2 [] 0])
 false N19)))))))) (∃ a_3 es_3, ∃ c_3 : Nat, (x1.cell 8) = D.sl a_3 9 es_3 c_3 ∧ ((0 : Int) ≤ (0 : Int) ∧ 0 < (es_3.length : Int)) ∧ ∀ N20, N ≤ N20 → ACalls prog
 224 [.int .i64] [.dg 9 x1, .int .i64 n2] N20 (fun n_5 N21 => N20 ≤ N21 → ∀ N22, N21 ≤ N22 → ACalls prog 88 [.ag 2, .bool] [.sv a0 4 e0 c0, .dg 9 (List.getD
 es_3 0 default), .int .i64 n_5] N22 (fun x_4 b_2 N23 => N22 ≤ N23 → Bel N23 x_4 → Br (!b_2) (∀ N24, N23 ≤ N24 → Q (D.ag [D.lit (.int .i64 0), D.sl Option.none
 2 [] 0]) false N24) (∃ n_6 : Int, (x1.cell 0) = D.lit (.int .i64 n_6) ∧ Br (n_6 == 10) (∀ N25, N23 ≤ N25 → ACalls prog 225 [.ag 2] [.dg 2 x_4] N25 (fun x_5
 N26 => N25 ≤ N26 → Bel N26 x_5 → ∀ N27, N26 ≤ N27 → Q x_5 true N27)) (∃ n_7 : Int, (x1.cell 0) = D.lit (.int .i64 n_7) ∧ Br (n_7 == 13) (∀ N28, N23 ≤ N28
 → ACalls prog 225 [.ag 2] [.dg 2 x_4] N28 (fun x_6 N29 => N28 ≤ N29 → Bel N29 x_6 → ∀ N30, N29 ≤ N30 → ACalls prog 135 [.bool] [.dg 2 x_4] N30 (fun b_3
 N31 => N30 ≤ N31 → ∀ N32, N31 ≤ N32 → Q x_6 b_3 N32))) (∃ n_8 : Int, (x_4.cell 0) = D.lit (.int .i64 n_8) ∧ Br (n_8 == 4) (∃ a_4 es_4, ∃ c_4 : Nat, (x_4.cell
 1) = D.sl a_4 2 es_4 c_4 ∧ ((0 : Int) ≤ (0 : Int) ∧ 0 < (es_4.length : Int)) ∧ ∀ N33, N23 ≤ N33 → ACalls prog 109 [.ag 2] [.dg 2 (List.getD es_4 0 default)] N33
 (fun x_7 N34 => N33 ≤ N34 → Bel N34 x_7 → ∀ N35, N34 ≤ N35 → Q x_7 true N35)) (∀ N36, N23 ≤ N36 → Q (D.ag [D.lit (.int .i64 0), D.sl Option.none 2 []
 0]) false N36)))))))) : ACalls prog 181 [.ag 2, .bool] [PV.sv a0 4 e0 c0, PV.dg 9 x1, PV.int .i64 n2] N Q :=
  eE (H := H_spec_l9Stage) (by kernel_rfl) (by kernel_rfl) h
theorem w_spec_l9Op (N : Nat) (s0 : ByteArray) (a1 : Option Addr) (e1 : List D) (c1 : Nat) (Q : QT [.ag 2, .bool]) (h :
Bel N (D.sl a1 2 e1 c1) → Br (ByteArray.toList s0 == ByteArray.toList (bytes [38])) (L_spec_l9Op_5 Q N s0 a1 e1 c1 2 0 0 Option.none [] 0 N) (Br (ByteArray.toList
 s0 == ByteArray.toList (bytes [124])) (L_spec_l9Op_5 Q N s0 a1 e1 c1 2 0 0 Option.none [] 0 N) (Br (ByteArray.toList s0 == ByteArray.toList (bytes [33])) (L_spec_l9Op_5
 Q N s0 a1 e1 c1 2 0 0 Option.none [] 0 N) (L_spec_l9Op_5 Q N s0 a1 e1 c1 1 0 0 Option.none [] 0 N)))) : ACalls prog 226 [.ag 2, .bool] [PV.str s0, PV.sv a1 2 e1 c1] N Q :=
  eE (H := H_spec_l9Op) (by kernel_rfl) (by kernel_rfl) h
theorem w_spec_l9Form (N : Nat) (x0 : D) (a1 : Option Addr) (e1 : List D) (c1 : Nat) (Q : QT [.ag 2, .bool]) (h :
Bel N x0 → Bel N (D.sl a1 2 e1 c1) → ∃ n : Int, (x0.cell 0) = D.lit (.int .i64 n) ∧ Br (n == 4) (∃ s, (x0.cell 1) = D.lit (.string s) ∧ ∀ N1, N ≤ N1 → ACalls prog
 226 [.ag 2, .bool] [.str s, .sv a1 2 e1 c1] N1 (fun x b N2 => N1 ≤ N2 → Bel N2 x → ∀ N3, N2 ≤ N3 → Q x b N3)) (Br (n == 5) (((0 : Int) ≤ (1 : Int) ∧ 1 <
 (e1.length : Int)) ∧ ((0 : Int) ≤ (0 : Int) ∧ 0 < (e1.length : Int)) ∧ ∃ n_1 : Int, (if 0 = 0 then D.cell (List.getD e1 0 default) 0 else D.sub (List.getD e1 0 default)
 0 0) = D.lit (.int .i64 n_1) ∧ Br (n_1 == 2) (((0 : Int) ≤ (1 : Int) ∧ 1 < (e1.length : Int)) ∧ ((0 : Int) ≤ (2 : Int) ∧ 2 < (e1.length : Int)) ∧ ∀ N4, N ≤ N4
 → ACalls prog 127 [.bool] [.dg 2 (List.getD e1 1 default), .dg 2 (List.getD e1 2 default)] N4 (fun b_1 N5 => N4 ≤ N5 → ∀ N6, N5 ≤ N6 → Q (List.getD e1 1 default)
 b_1 N6)) (∀ N7, N ≤ N7 → Q (List.getD e1 1 default) false N7)) (((0 : Int) ≤ (0 : Int) ∧ 0 < (e1.length : Int)) ∧ ∃ n_2 : Int, (if 0 = 0 then D.cell (List.getD
 e1 0 default) 0 else D.sub (List.getD e1 0 default) 0 0) = D.lit (.int .i64 n_2) ∧ Br (n_2 == 3) (((0 : Int) ≤ (0 : Int) ∧ 0 < (e1.length : Int)) ∧ ∃ a es, ∃ c :
 Nat, (if 0 = 0 then D.cell (List.getD e1 0 default) 1 else D.sub (List.getD e1 0 default) 1 0) = D.sl a 2 es c ∧ ((0 : Int) ≤ (0 : Int) ∧ 0 < (es.length : Int))
 ∧ ((0 : Int) ≤ (1 : Int) ∧ 1 < (e1.length : Int)) ∧ ∀ N8, N ≤ N8 → ACalls prog 127 [.bool] [.dg 2 (List.getD es 0 default), .dg 2 (List.getD e1 1 default)] N8
 (fun b_2 N9 => N8 ≤ N9 → Br b_2 (((0 : Int) ≤ (0 : Int) ∧ 0 < (e1.length : Int)) ∧ ∃ a_1 es_1, ∃ c_1 : Nat, (if 0 = 0 then D.cell (List.getD e1 0 default) 1 else
 D.sub (List.getD e1 0 default) 1 0) = D.sl a_1 2 es_1 c_1 ∧ ((0 : Int) ≤ (1 : Int) ∧ 1 < (es_1.length : Int)) ∧ ∀ N10, N9 ≤ N10 → ACalls prog 109 [.ag 2] [.dg
 2 (List.getD es_1 1 default)] N10 (fun x_1 N11 => N10 ≤ N11 → Bel N11 x_1 → ∀ N12, N11 ≤ N12 → Q x_1 true N12)) (∀ N13, N9 ≤ N13 → Q (D.ag [D.lit (.int
 .i64 0), D.sl Option.none 2 [] 0]) false N13))) (∀ N14, N ≤ N14 → Q (D.ag [D.lit (.int .i64 0), D.sl Option.none 2 [] 0]) false N14)))) : ACalls prog 182 [.ag 2, .bool] [PV.dg 9 x0, PV.sv a1 2 e1 c1] N Q :=
  eE (H := H_spec_l9Form) (by kernel_rfl) (by kernel_rfl) h
theorem w_spec_l9Some (N : Nat) (a0 : Option Addr) (e0 : List D) (c0 : Nat) (x1 : D) (n2 : Int) (Q : QT [.ag 2, .bool]) (h :
Bel N (D.sl a0 4 e0 c0) → Bel N x1 → ∃ n : Int, (x1.cell 0) = D.lit (.int .i64 n) ∧ Br (n == 1) (∃ s, (x1.cell 1) = D.lit (.string s) ∧ ∀ N1, N ≤ N1 → ACalls prog
 177 [.int .i64] [.sv a0 4 e0 c0, .str s] N1 (fun n_1 N2 => N1 ≤ N2 → Br (decide (n_1 < 0)) (∀ N3, N2 ≤ N3 → Q (D.ag [D.lit (.int .i64 0), D.sl Option.none
 2 [] 0]) false N3) ((0 ≤ n_1 ∧ n_1 < (e0.length : Int)) ∧ ∃ n_2 : Int, (if 0 = 0 then D.cell (List.getD e0 n_1.toNat default) 3 else D.sub (List.getD e0 n_1.toNat
 default) 3 0) = D.lit (.int .i64 n_2) ∧ Br (bne n_2 n2) (∀ N4, N2 ≤ N4 → Q (D.ag [D.lit (.int .i64 0), D.sl Option.none 2 [] 0]) false N4) ((0 ≤ n_1 ∧ n_1 <
 (e0.length : Int)) ∧ ∀ N5, N2 ≤ N5 → ACalls prog 109 [.ag 2] [.dg 2 (if 2 = 0 then D.cell (List.getD e0 n_1.toNat default) 1 else D.sub (List.getD e0 n_1.toNat
 default) 1 2)] N5 (fun x N6 => N5 ≤ N6 → Bel N6 x → ∀ N7, N6 ≤ N7 → Q x true N7))))) (Br (n == 2) (∀ N8, N ≤ N8 → ACalls prog 178 [.ag 2] [] N8 (fun
 x_1 N9 => N8 ≤ N9 → Bel N9 x_1 → ∀ N10, N9 ≤ N10 → Q x_1 true N10)) (Br (n == 3) (∀ N11, N ≤ N11 → ACalls prog 179 [.ag 2] [] N11 (fun x_2 N12 => N11
 ≤ N12 → Bel N12 x_2 → ∀ N13, N12 ≤ N13 → Q x_2 true N13)) (Br (n == 6) (∀ N14, N ≤ N14 → ACalls prog 180 [.ag 2, .bool] [.sv a0 4 e0 c0, .dg 9 x1, .int .i64
 n2] N14 (fun x_3 b N15 => N14 ≤ N15 → Bel N15 x_3 → ∀ N16, N15 ≤ N16 → Q x_3 b N16)) (Br (n == 8) (∀ N17, N ≤ N17 → ACalls prog 180 [.ag 2, .bool] [.sv
 a0 4 e0 c0, .dg 9 x1, .int .i64 n2] N17 (fun x_4 b_1 N18 => N17 ≤ N18 → Bel N18 x_4 → ∀ N19, N18 ≤ N19 → Q x_4 b_1 N19)) (Br (n == 9) (∀ N20, N ≤ N20
 → ACalls prog 180 [.ag 2, .bool] [.sv a0 4 e0 c0, .dg 9 x1, .int .i64 n2] N20 (fun x_5 b_2 N21 => N20 ≤ N21 → Bel N21 x_5 → ∀ N22, N21 ≤ N22 → Q x_5 b_2
 N22)) (Br (n == 10) (∀ N23, N ≤ N23 → ACalls prog 181 [.ag 2, .bool] [.sv a0 4 e0 c0, .dg 9 x1, .int .i64 n2] N23 (fun x_6 b_3 N24 => N23 ≤ N24 → Bel N24
 x_6 → ∀ N25, N24 ≤ N25 → Q x_6 b_3 N25)) (Br (n == 11) (∀ N26, N ≤ N26 → ACalls prog 181 [.ag 2, .bool] [.sv a0 4 e0 c0, .dg 9 x1, .int .i64 n2] N26 (fun
 x_7 b_4 N27 => N26 ≤ N27 → Bel N27 x_7 → ∀ N28, N27 ≤ N28 → Q x_7 b_4 N28)) (Br (n == 12) (∀ N29, N ≤ N29 → ACalls prog 181 [.ag 2, .bool] [.sv a0 4 e0
 c0, .dg 9 x1, .int .i64 n2] N29 (fun x_8 b_5 N30 => N29 ≤ N30 → Bel N30 x_8 → ∀ N31, N30 ≤ N31 → Q x_8 b_5 N31)) (Br (n == 13) (∀ N32, N ≤ N32 → ACalls
 prog 181 [.ag 2, .bool] [.sv a0 4 e0 c0, .dg 9 x1, .int .i64 n2] N32 (fun x_9 b_6 N33 => N32 ≤ N33 → Bel N33 x_9 → ∀ N34, N33 ≤ N34 → Q x_9 b_6 N34)) (L_spec_l9Some_24
 Q N a0 e0 c0 n2 0 0 0 x1 0 Option.none [] 0 [] 0 N))))))))))) : ACalls prog 140 [.ag 2, .bool] [PV.sv a0 4 e0 c0, PV.dg 9 x1, PV.int .i64 n2] N Q :=
  eE (H := H_spec_l9Some) (by kernel_rfl) (by kernel_rfl) h
theorem w_spec_l9Type (N : Nat) (a0 : Option Addr) (e0 : List D) (c0 : Nat) (x1 : D) (n2 : Int) (Q : QT [.ag 2, .bool]) (h :
Bel N (D.sl a0 4 e0 c0) → Bel N x1 → ∀ N1, N ≤ N1 → ACalls prog 140 [.ag 2, .bool] [.sv a0 4 e0 c0, .dg 9 x1, .int .i64 n2] N1 (fun x b N2 => N1 ≤ N2 → Bel
 N2 x → Br (!b) (∀ N3, N2 ≤ N3 → Q (D.ag [D.lit (.int .i64 0), D.sl Option.none 2 [] 0]) false N3) (∀ N4, N2 ≤ N4 → ACalls prog 141 [.bool] [.dg 2 x] N4
 (fun b_1 N5 => N4 ≤ N5 → Br (!b_1) (∀ N6, N5 ≤ N6 → Q (D.ag [D.lit (.int .i64 0), D.sl Option.none 2 [] 0]) false N6) (∀ N7, N5 ≤ N7 → Q x true N7)))) 
 ) : ACalls prog 88 [.ag 2, .bool] [PV.sv a0 4 e0 c0, PV.dg 9 x1, PV.int .i64 n2] N Q :=
  eE (H := H_spec_l9Type) (by kernel_rfl) (by kernel_rfl) h
theorem l_spec_IsName_2 (Q : QT [.bool]) (N0 : Nat) (s0 : ByteArray) (n3 : Int) (N : Nat) (h :
Br (decide (n3 < (s0.size : Int))) ((0 ≤ n3 ∧ n3 < (s0.size : Int)) ∧ Br (decide ((UInt8.toNat (Array.getD (ByteArray.data s0) n3.toNat (OfNat.ofNat 0)) : Int) ≥
 97)) ((0 ≤ n3 ∧ n3 < (s0.size : Int)) ∧ Br (!(decide ((UInt8.toNat (Array.getD (ByteArray.data s0) n3.toNat (OfNat.ofNat 0)) : Int) ≤ 122))) (Br (n3 == 0) (∀ N1,
 N ≤ N1 → Q false N1) ((0 ≤ n3 ∧ n3 < (s0.size : Int)) ∧ Br (decide ((UInt8.toNat (Array.getD (ByteArray.data s0) n3.toNat (OfNat.ofNat 0)) : Int) < 48)) (∀ N2,
 N ≤ N2 → Q false N2) ((0 ≤ n3 ∧ n3 < (s0.size : Int)) ∧ Br (decide ((UInt8.toNat (Array.getD (ByteArray.data s0) n3.toNat (OfNat.ofNat 0)) : Int) > 57)) (∀ N3,
 N ≤ N3 → Q false N3) (L_spec_IsName_2 Q N0 s0 (IntKind.i64.wrap (n3 + 1)) N)))) (L_spec_IsName_2 Q N0 s0 (IntKind.i64.wrap (n3 + 1)) N)) (Br (n3 == 0) (∀ N4,
 N ≤ N4 → Q false N4) ((0 ≤ n3 ∧ n3 < (s0.size : Int)) ∧ Br (decide ((UInt8.toNat (Array.getD (ByteArray.data s0) n3.toNat (OfNat.ofNat 0)) : Int) < 48)) (∀ N5,
 N ≤ N5 → Q false N5) ((0 ≤ n3 ∧ n3 < (s0.size : Int)) ∧ Br (decide ((UInt8.toNat (Array.getD (ByteArray.data s0) n3.toNat (OfNat.ofNat 0)) : Int) > 57)) (∀ N6,
 N ≤ N6 → Q false N6) (L_spec_IsName_2 Q N0 s0 (IntKind.i64.wrap (n3 + 1)) N))))) (∀ N7, N ≤ N7 → ACalls prog 113 [.bool] [.int .i64 (s0.size : Int), .int .i64
 1, .int .i64 4] N7 (fun b N8 => N7 ≤ N8 → Br b (Br (!(ByteArray.toList s0 == ByteArray.toList (bytes [105, 102]))) (Br (!(ByteArray.toList s0 == ByteArray.toList
 (bytes [108, 101, 116]))) (Br (!(ByteArray.toList s0 == ByteArray.toList (bytes [114, 101, 99]))) (Br (!(ByteArray.toList s0 == ByteArray.toList (bytes [114, 117,
 110]))) (∀ N9, N8 ≤ N9 → Q (!(ByteArray.toList s0 == ByteArray.toList (bytes [108, 105, 102, 116]))) N9) (∀ N10, N8 ≤ N10 → Q false N10)) (∀ N11, N8 ≤
 N11 → Q false N11)) (∀ N12, N8 ≤ N12 → Q false N12)) (∀ N13, N8 ≤ N13 → Q false N13)) (∀ N14, N8 ≤ N14 → Q false N14)))) : L_spec_IsName_2 Q N0 s0 n3 N :=
  hE (H := H_spec_IsName) (by kernel_rfl) h
theorem l_spec_l3Left_3 (Q : QT [.int .i64]) (N0 : Nat) (n1 n5 : Int) (y0 : D) (N : Nat) (h :
∃ a es, ∃ c : Nat, (y0.cell 1) = D.sl a 2 es c ∧ Br (decide (n5 < (es.length : Int))) (Br (decide (n1 ≥ 0)) (∃ a_1 es_1, ∃ c_1 : Nat, (y0.cell 1) = D.sl a_1 2 es_1
 c_1 ∧ (0 ≤ n5 ∧ n5 < (es_1.length : Int)) ∧ ∀ N1, N ≤ N1 → ACalls prog 183 [.int .i64] [.dg 2 (List.getD es_1 n5.toNat default), .int .i64 n1] N1 (fun n N2 =>
 N1 ≤ N2 → L_spec_l3Left_3 Q N0 n (IntKind.i64.wrap (n5 + 1)) y0 N2)) (∀ N3, N ≤ N3 → Q n1 N3)) (∀ N4, N ≤ N4 → Q n1 N4)) : L_spec_l3Left_3 Q N0 n1 n5 y0 N :=
  hE (H := H_spec_l3Left) (by kernel_rfl) h
theorem l_spec_DepthOfType_3 (Q : QT [.int .i64]) (N0 : Nat) (n3 n4 : Int) (y0 : D) (N : Nat) (h :
∃ a es, ∃ c : Nat, (y0.cell 1) = D.sl a 2 es c ∧ Br (decide (n4 < (es.length : Int))) (∃ a_1 es_1, ∃ c_1 : Nat, (y0.cell 1) = D.sl a_1 2 es_1 c_1 ∧ (0 ≤ n4 ∧ n4
 < (es_1.length : Int)) ∧ ∀ N1, N ≤ N1 → ACalls prog 184 [.int .i64] [.dg 2 (List.getD es_1 n4.toNat default)] N1 (fun n N2 => N1 ≤ N2 → ∀ N3, N2 ≤ N3 →
 ACalls prog 174 [.int .i64] [.int .i64 n3, .int .i64 n] N3 (fun n_1 N4 => N3 ≤ N4 → L_spec_DepthOfType_3 Q N0 n_1 (IntKind.i64.wrap (n4 + 1)) y0 N4))) (∀ N5,
 N ≤ N5 → Q (IntKind.i64.wrap (n3 + 1)) N5)) : L_spec_DepthOfType_3 Q N0 n3 n4 y0 N :=
  hE (H := H_spec_DepthOfType) (by kernel_rfl) h
theorem l_spec_l3Form_2 (Q : QT [.bool]) (N0 : Nat) (n3 : Int) (y0 : D) (N : Nat) (h :
∃ a es, ∃ c : Nat, (y0.cell 1) = D.sl a 2 es c ∧ Br (decide (n3 < (es.length : Int))) (∃ a_1 es_1, ∃ c_1 : Nat, (y0.cell 1) = D.sl a_1 2 es_1 c_1 ∧ (0 ≤ n3 ∧ n3
 < (es_1.length : Int)) ∧ ∀ N1, N ≤ N1 → ACalls prog 185 [.bool] [.dg 2 (List.getD es_1 n3.toNat default)] N1 (fun b N2 => N1 ≤ N2 → Br (!b) (∀ N3, N2 ≤ N3
 → Q false N3) (L_spec_l3Form_2 Q N0 (IntKind.i64.wrap (n3 + 1)) y0 N2))) (∃ n : Int, (y0.cell 0) = D.lit (.int .i64 n) ∧ Br (n == 1) (∃ a_2 es_2, ∃ c_2 : Nat,
 (y0.cell 1) = D.sl a_2 2 es_2 c_2 ∧ ∀ N4, N ≤ N4 → Q ((es_2.length : Int) == 0) N4) (Br (n == 2) (∃ a_3 es_3, ∃ c_3 : Nat, (y0.cell 1) = D.sl a_3 2 es_3 c_3 ∧
 ∀ N5, N ≤ N5 → Q ((es_3.length : Int) == 0) N5) (Br (n == 3) (∃ a_4 es_4, ∃ c_4 : Nat, (y0.cell 1) = D.sl a_4 2 es_4 c_4 ∧ ∀ N6, N ≤ N6 → Q ((es_4.length :
 Int) == 2) N6) (Br (n == 4) (∃ a_5 es_5, ∃ c_5 : Nat, (y0.cell 1) = D.sl a_5 2 es_5 c_5 ∧ ∀ N7, N ≤ N7 → Q ((es_5.length : Int) == 1) N7) (∀ N8, N ≤ N8 → Q
 false N8)))))) : L_spec_l3Form_2 Q N0 n3 y0 N :=
  hE (H := H_spec_l3Form) (by kernel_rfl) h
theorem l_spec_IsTerm_2 (Q : QT [.bool]) (N0 : Nat) (n3 : Int) (y0 : D) (N : Nat) (h :
∃ a es, ∃ c : Nat, (y0.cell 8) = D.sl a 9 es c ∧ Br (decide (n3 < (es.length : Int))) (∃ a_1 es_1, ∃ c_1 : Nat, (y0.cell 8) = D.sl a_1 9 es_1 c_1 ∧ (0 ≤ n3 ∧ n3
 < (es_1.length : Int)) ∧ ∀ N1, N ≤ N1 → ACalls prog 139 [.bool] [.dg 9 (List.getD es_1 n3.toNat default)] N1 (fun b N2 => N1 ≤ N2 → Br (!b) (∀ N3, N2 ≤ N3
 → Q false N3) (L_spec_IsTerm_2 Q N0 (IntKind.i64.wrap (n3 + 1)) y0 N2))) (∀ N4, N ≤ N4 → ACalls prog 175 [.bool] [.dg 9 y0] N4 (fun b_1 N5 => N4 ≤ N5 → Br
 b_1 (∃ a_2 es_2, ∃ c_2 : Nat, (y0.cell 8) = D.sl a_2 9 es_2 c_2 ∧ ∀ N6, N5 ≤ N6 → ACalls prog 176 [.int .i64] [.dg 9 y0] N6 (fun n N7 => N6 ≤ N7 → ∀ N8,
 N7 ≤ N8 → Q ((es_2.length : Int) == n) N8)) (∀ N9, N5 ≤ N9 → Q false N9)))) : L_spec_IsTerm_2 Q N0 n3 y0 N :=
  hE (H := H_spec_IsTerm) (by kernel_rfl) h
theorem l_spec_l9Last_2 (Q : QT [.int .i64]) (N0 : Nat) (a0 : Option Addr) (e0 : List D) (c0 : Nat) (s1 : ByteArray) (n5 : Int) (N : Nat) (h :
Br (decide (n5 ≥ 0)) ((0 ≤ n5 ∧ n5 < (e0.length : Int)) ∧ ∃ s, (if 0 = 0 then D.cell (List.getD e0 n5.toNat default) 0 else D.sub (List.getD e0 n5.toNat default)
 0 0) = D.lit (.string s) ∧ Br (ByteArray.toList s == ByteArray.toList s1) (∀ N1, N ≤ N1 → Q n5 N1) (L_spec_l9Last_2 Q N0 a0 e0 c0 s1 (IntKind.i64.wrap (n5 - 1))
 N)) (∀ N2, N ≤ N2 → Q (-1) N2)) : L_spec_l9Last_2 Q N0 a0 e0 c0 s1 n5 N :=
  hE (H := H_spec_l9Last) (by kernel_rfl) h
theorem l_spec_l3Copy_3 (Q : QT [.ag 2]) (N0 : Nat) (n4 : Int) (y0 : D) (n1_0 : Int) (a1_1 : Option Addr) (e1_1 : List D) (c1_1 : Nat) (n2_0 : Int) (a2_1 : Option Addr) (e2_1 : List D) (c2_1 : Nat) (N : Nat) (h :
∃ a es, ∃ c : Nat, (y0.cell 1) = D.sl a 2 es c ∧ Br (decide (n4 < (es.length : Int))) (∃ a_1 es_1, ∃ c_1 : Nat, (y0.cell 1) = D.sl a_1 2 es_1 c_1 ∧ (0 ≤ n4 ∧ n4
 < (es_1.length : Int)) ∧ ∀ N1, N ≤ N1 → ACalls prog 109 [.ag 2] [.dg 2 (List.getD es_1 n4.toNat default)] N1 (fun x N2 => N1 ≤ N2 → Bel N2 x → ApOk a2_1 e2_1
 c2_1 [x] ∧ apBound e2_1 [x] 32 ∧ ∀ (c_2 : Nat), L_spec_l3Copy_3_v1 Q N0 (IntKind.i64.wrap (n4 + 1)) y0 n1_0 a1_1 e1_1 c1_1 n2_0 (e2_1 ++ [x]).length c_2 (e2_1 ++
 [x]) c_2 N2)) (∀ N3, N ≤ N3 → Q (D.ag [D.lit (.int .i64 n2_0), D.sl a2_1 2 e2_1 c2_1]) N3)) : L_spec_l3Copy_3 Q N0 n4 y0 n1_0 a1_1 e1_1 c1_1 n2_0 a2_1 e2_1 c2_1 N :=
  hE (H := H_spec_l3Copy) (by kernel_rfl) h
theorem l_spec_EqualType_4 (Q : QT [.bool]) (N0 : Nat) (n5 : Int) (y0 y1 : D) (N : Nat) (h :
∃ a es, ∃ c : Nat, (y0.cell 1) = D.sl a 2 es c ∧ Br (decide (n5 < (es.length : Int))) (∃ a_1 es_1, ∃ c_1 : Nat, (y0.cell 1) = D.sl a_1 2 es_1 c_1 ∧ (0 ≤ n5 ∧ n5
 < (es_1.length : Int)) ∧ ∃ a_2 es_2, ∃ c_2 : Nat, (y1.cell 1) = D.sl a_2 2 es_2 c_2 ∧ (0 ≤ n5 ∧ n5 < (es_2.length : Int)) ∧ ∀ N1, N ≤ N1 → ACalls prog 127 [.bool]
 [.dg 2 (List.getD es_1 n5.toNat default), .dg 2 (List.getD es_2 n5.toNat default)] N1 (fun b N2 => N1 ≤ N2 → Br (!b) (∀ N3, N2 ≤ N3 → Q false N3) (L_spec_EqualType_4
 Q N0 (IntKind.i64.wrap (n5 + 1)) y0 y1 N2))) (∀ N4, N ≤ N4 → Q true N4)) : L_spec_EqualType_4 Q N0 n5 y0 y1 N :=
  hE (H := H_spec_EqualType) (by kernel_rfl) h
theorem l_spec_SafeCtx_3 (Q : QT [.sl 4]) (N0 : Nat) (a0 : Option Addr) (e0 : List D) (c0 : Nat) (n1 : Int) (m5 c5 : Nat) (n6 : Int) (r0 : List D) (q0 : Nat) (N : Nat) (h :
Br (decide (n6 < (e0.length : Int))) ((0 ≤ n6 ∧ n6 < (e0.length : Int)) ∧ ∀ N1, N ≤ N1 → ACalls prog 135 [.bool] [.dg 2 (if 2 = 0 then D.cell (List.getD e0 n6.toNat
 default) 1 else D.sub (List.getD e0 n6.toNat default) 1 2)] N1 (fun b N2 => N1 ≤ N2 → Br b ((0 ≤ n6 ∧ n6 < (e0.length : Int)) ∧ ∃ n : Int, (if 0 = 0 then D.cell
 (List.getD e0 n6.toNat default) 3 else D.sub (List.getD e0 n6.toNat default) 3 0) = D.lit (.int .i64 n) ∧ Br (decide (n ≤ n1)) ((0 ≤ n6 ∧ n6 < (e0.length : Int))
 ∧ ∃ s, (if 0 = 0 then D.cell (List.getD e0 n6.toNat default) 0 else D.sub (List.getD e0 n6.toNat default) 0 0) = D.lit (.string s) ∧ ∀ N3, N2 ≤ N3 → ACalls prog
 177 [.int .i64] [.sv a0 4 e0 c0, .str s] N3 (fun n_1 N4 => N3 ≤ N4 → Br (n_1 == n6) ((0 ≤ n6 ∧ n6 < (e0.length : Int)) ∧ ∃ s_1, (if 0 = 0 then D.cell (List.getD
 e0 n6.toNat default) 0 else D.sub (List.getD e0 n6.toNat default) 0 0) = D.lit (.string s_1) ∧ (0 ≤ n6 ∧ n6 < (e0.length : Int)) ∧ (0 ≤ n6 ∧ n6 < (e0.length : Int))
 ∧ ∃ n_2 : Int, (if 0 = 0 then D.cell (List.getD e0 n6.toNat default) 3 else D.sub (List.getD e0 n6.toNat default) 3 0) = D.lit (.int .i64 n_2) ∧ ∀ N5, N4 ≤ N5
 → ACalls prog 109 [.ag 2] [.dg 2 (if 2 = 0 then D.cell (List.getD e0 n6.toNat default) 1 else D.sub (List.getD e0 n6.toNat default) 1 2)] N5 (fun x N6 => N5 ≤
 N6 → Bel N6 x → (m5 = r0.length ∧ c5 = q0) ∧ apBound r0 [D.ag [D.lit (.string s_1), (x.cell 0), (x.cell 1), D.lit (.int .i64 n_2)]] 56 ∧ ∀ (c : Nat), L_spec_SafeCtx_3
 Q N0 a0 e0 c0 n1 (r0 ++ [D.ag [D.lit (.string s_1), (x.cell 0), (x.cell 1), D.lit (.int .i64 n_2)]]).length c (IntKind.i64.wrap (n6 + 1)) (r0 ++ [D.ag [D.lit (.string
 s_1), (x.cell 0), (x.cell 1), D.lit (.int .i64 n_2)]]) c N6)) (L_spec_SafeCtx_3 Q N0 a0 e0 c0 n1 m5 c5 (IntKind.i64.wrap (n6 + 1)) r0 q0 N4))) (L_spec_SafeCtx_3
 Q N0 a0 e0 c0 n1 m5 c5 (IntKind.i64.wrap (n6 + 1)) r0 q0 N2)) (L_spec_SafeCtx_3 Q N0 a0 e0 c0 n1 m5 c5 (IntKind.i64.wrap (n6 + 1)) r0 q0 N2))) ((m5 = r0.length
 ∧ c5 = q0) ∧ (m5 = r0.length ∧ c5 = q0) ∧ (m5 = r0.length ∧ c5 = q0) ∧ ∀ a N7, N ≤ N7 → Fresh N0 N7 a [D.ag r0] → ∀ N8, N7 ≤ N8 → Q a r0 q0 N8)) : L_spec_SafeCtx_3 Q N0 a0 e0 c0 n1 m5 c5 n6 r0 q0 N :=
  hE (H := H_spec_SafeCtx) (by kernel_rfl) h
theorem l_spec_l9Op_5 (Q : QT [.ag 2, .bool]) (N0 : Nat) (s0 : ByteArray) (a1 : Option Addr) (e1 : List D) (c1 : Nat) (n6 n7 n0_0 : Int) (a0_1 : Option Addr) (e0_1 : List D) (c0_1 : Nat) (N : Nat) (h :
Br (decide (n7 < (e1.length : Int))) ((0 ≤ n7 ∧ n7 < (e1.length : Int)) ∧ ∃ n : Int, (if 0 = 0 then D.cell (List.getD e1 n7.toNat default) 0 else D.sub (List.getD
 e1 n7.toNat default) 0 0) = D.lit (.int .i64 n) ∧ Br (bne n n6) (∀ N1, N ≤ N1 → Q (D.ag [D.lit (.int .i64 0), D.sl Option.none 2 [] 0]) false N1) (L_spec_l9Op_5
 Q N0 s0 a1 e1 c1 n6 (IntKind.i64.wrap (n7 + 1)) n0_0 a0_1 e0_1 c0_1 N)) (Br (ByteArray.toList s0 == ByteArray.toList (bytes [43])) (∀ N2, N ≤ N2 → ACalls prog
 178 [.ag 2] [] N2 (fun x N3 => N2 ≤ N3 → Bel N3 x → ∀ N4, N3 ≤ N4 → Q x true N4)) (Br (ByteArray.toList s0 == ByteArray.toList (bytes [45])) (∀ N5, N ≤
 N5 → ACalls prog 178 [.ag 2] [] N5 (fun x_1 N6 => N5 ≤ N6 → Bel N6 x_1 → ∀ N7, N6 ≤ N7 → Q x_1 true N7)) (Br (ByteArray.toList s0 == ByteArray.toList (bytes
 [42])) (∀ N8, N ≤ N8 → ACalls prog 178 [.ag 2] [] N8 (fun x_2 N9 => N8 ≤ N9 → Bel N9 x_2 → ∀ N10, N9 ≤ N10 → Q x_2 true N10)) (∀ N11, N ≤ N11 → ACalls
 prog 179 [.ag 2] [] N11 (fun x_3 N12 => N11 ≤ N12 → Bel N12 x_3 → ∀ N13, N12 ≤ N13 → Q x_3 true N13)))))) : L_spec_l9Op_5 Q N0 s0 a1 e1 c1 n6 n7 n0_0 a0_1 e0_1 c0_1 N :=
  hE (H := H_spec_l9Op) (by kernel_rfl) h
theorem l_spec_l9Some_24 (Q : QT [.ag 2, .bool]) (N0 : Nat) (a0 : Option Addr) (e0 : List D) (c0 : Nat) (n2 : Int) (m13 c13 : Nat) (n14 : Int) (y0 : D) (n1_0 : Int) (a1_1 : Option Addr) (e1_1 : List D) (c1_1 : Nat) (r2 : List D) (q2 : Nat) (N : Nat) (h :
∃ a es, ∃ c : Nat, (y0.cell 8) = D.sl a 9 es c ∧ Br (decide (n14 < (es.length : Int))) (∃ a_1 es_1, ∃ c_1 : Nat, (y0.cell 8) = D.sl a_1 9 es_1 c_1 ∧ (0 ≤ n14 ∧ n14
 < (es_1.length : Int)) ∧ ∀ N1, N ≤ N1 → ACalls prog 88 [.ag 2, .bool] [.sv a0 4 e0 c0, .dg 9 (List.getD es_1 n14.toNat default), .int .i64 n2] N1 (fun x b N2
 => N1 ≤ N2 → Bel N2 x → Br (!b) (∀ N3, N2 ≤ N3 → Q (D.ag [D.lit (.int .i64 0), D.sl Option.none 2 [] 0]) false N3) ((m13 = r2.length ∧ c13 = q2) ∧ apBound
 r2 [x] 32 ∧ ∀ (c_2 : Nat), L_spec_l9Some_24 Q N0 a0 e0 c0 n2 (r2 ++ [x]).length c_2 (IntKind.i64.wrap (n14 + 1)) y0 n1_0 a1_1 e1_1 c1_1 (r2 ++ [x]) c_2 N2))) ((m13
 = r2.length ∧ c13 = q2) ∧ ∀ a_2, ApA a_2 r2 → Off [a_2] y0 → ∀ N4, N ≤ N4 → BelA N4 [a_2] → ACalls prog 182 [.ag 2, .bool] [.dg 9 y0, .sv a_2 2 r2 c13] N4 (fun
 x_1 b_1 N5 => N4 ≤ N5 → Off [a_2] x_1 ∧ (Bel N5 x_1 → ∀ N6, N5 ≤ N6 → Q x_1 b_1 N6)))) : L_spec_l9Some_24 Q N0 a0 e0 c0 n2 m13 c13 n14 y0 n1_0 a1_1 e1_1 c1_1 r2 q2 N :=
  hE (H := H_spec_l9Some) (by kernel_rfl) h
theorem l_spec_l3Copy_3_v1 (Q : QT [.ag 2]) (N0 : Nat) (n4 : Int) (y0 : D) (n1_0 : Int) (a1_1 : Option Addr) (e1_1 : List D) (c1_1 : Nat) (n2_0 : Int) (m2_1 c2_1 : Nat) (r3 : List D) (q3 : Nat) (N : Nat) (h :
∃ a es, ∃ c : Nat, (y0.cell 1) = D.sl a 2 es c ∧ Br (decide (n4 < (es.length : Int))) (∃ a_1 es_1, ∃ c_1 : Nat, (y0.cell 1) = D.sl a_1 2 es_1 c_1 ∧ (0 ≤ n4 ∧ n4
 < (es_1.length : Int)) ∧ ∀ N1, N ≤ N1 → ACalls prog 109 [.ag 2] [.dg 2 (List.getD es_1 n4.toNat default)] N1 (fun x N2 => N1 ≤ N2 → Bel N2 x → (m2_1 = r3.length
 ∧ c2_1 = q3) ∧ apBound r3 [x] 32 ∧ ∀ (c_2 : Nat), L_spec_l3Copy_3_v1 Q N0 (IntKind.i64.wrap (n4 + 1)) y0 n1_0 a1_1 e1_1 c1_1 n2_0 (r3 ++ [x]).length c_2 (r3 ++ [x])
 c_2 N2)) ((m2_1 = r3.length ∧ c2_1 = q3) ∧ (m2_1 = r3.length ∧ c2_1 = q3) ∧ (m2_1 = r3.length ∧ c2_1 = q3) ∧ ∀ a_2 N3, N ≤ N3 → Fresh N0 N3 a_2 [D.ag r3] → ∀
 N4, N3 ≤ N4 → Q (D.ag [D.lit (.int .i64 n2_0), D.sl a_2 2 r3 q3]) N4)) : L_spec_l3Copy_3_v1 Q N0 n4 y0 n1_0 a1_1 e1_1 c1_1 n2_0 m2_1 c2_1 r3 q3 N :=
  hE (H := H_spec_l3Copy) (by kernel_rfl) h

end Go.Proofs.YtfkmegifjiiclaaGreat
