/- Printed by gen.py: what the functions come to. -/
import Derived.Test.YtobhcgffgpcjgaaGreatJh
set_option linter.unusedVariables false
set_option maxRecDepth 100000
namespace Go.Proofs.YtobhcgffgpcjgaaGreat
open Go Go.Proofs Go.Proofs.Tryz
def H_impl_within : Hint := { cuts := [], joins := [], ords := [] }
def H_slices_Index__str : Hint := { cuts := [{ id := 2, keep := [0, 1, 7, 8] }], joins := [], ords := [] }
def H_slices_Contains__str : Hint := { cuts := [], joins := [], ords := [] }
def H_impl_IsName : Hint := { cuts := [{ id := 2, keep := [0, 6, 7] }], joins := [], ords := [] }
def H_impl_SizeOfType : Hint := { cuts := [{ id := 3, keep := [3, 7, 8, 9] }], joins := [], ords := [(5, [{ i := 0, hard := true }, { i := 1, hard := true }, { i := 2, hard := true, cl := [14] }, { i := 3, hard := true }, { i := 4, hard := true }])] }
def H_impl_DepthOfType : Hint := { cuts := [{ id := 3, keep := [3, 7, 8, 9] }], joins := [], ords := [(5, [{ i := 0, hard := true }, { i := 1, hard := true }, { i := 2, hard := true, cl := [14] }, { i := 3, hard := true }, { i := 4, hard := true }])] }
def H_impl_IsValidType_1 : Hint := { cuts := [], joins := [], ords := [(1, [{ i := 0 }, { i := 1 }, { i := 2, hard := true }, { i := 3 }, { i := 4 }, { i := 5 }, { i := 6 }, { i := 7 }, { i := 8 }, { i := 9 }, { i := 10 }, { i := 11 }, { i := 12 }, { i := 13 }, { i := 14 }, { i := 15 }])] }
def H_impl_allTypes_1 : Hint := { cuts := [], joins := [], ords := [(1, [{ i := 0, hard := true }, { i := 1, hard := true }, { i := 2, hard := true, cl := [4] }, { i := 3, hard := true }, { i := 4, hard := true }])] }
def H_slices_IndexFunc_Type : Hint := { cuts := [{ id := 2, keep := [0, 1, 7, 8] }], joins := [], ords := [(4, [{ i := 0, hard := true }, { i := 1, hard := true }, { i := 2, hard := true }, { i := 3, hard := true }, { i := 4, hard := true }, { i := 5, hard := true, cl := [15] }])] }
def H_slices_ContainsFunc_Type : Hint := { cuts := [], joins := [], ords := [] }
def H_impl_allTypes : Hint := { cuts := [], joins := [], ords := [(1, [{ i := 0, hard := true }, { i := 1, hard := true }, { i := 2, hard := true, cl := [6] }, { i := 3, hard := true }, { i := 4, hard := true }, { i := 5, hard := true }, { i := 6, hard := true }, { i := 7, hard := true }, { i := 8, hard := true }, { i := 9, hard := true }, { i := 10, hard := true }])] }
def H_impl_IsValidType : Hint := { cuts := [], joins := [], ords := [(1, [{ i := 0, hard := true }, { i := 1, hard := true, cl := [3] }, { i := 2, hard := true }, { i := 3, hard := true }, { i := 4, hard := true }, { i := 5, hard := true, cl := [7] }, { i := 6, hard := true }, { i := 7, hard := true }, { i := 8, hard := true }, { i := 9, hard := true }, { i := 10, hard := true, cl := [12] }, { i := 11, hard := true }, { i := 12, hard := true }])] }
def H_impl_IsCtx_1 : Hint := { cuts := [], joins := [], ords := [(1, [{ i := 0, hard := true }, { i := 1, hard := true }, { i := 2, hard := true }, { i := 3, hard := true }, { i := 4, hard := true }, { i := 5, hard := true }, { i := 6, hard := true }, { i := 7, hard := true, cl := [9] }, { i := 8, hard := true }, { i := 9, hard := true }, { i := 10, hard := true }, { i := 11, hard := true }, { i := 12, hard := true }, { i := 13, hard := true }, { i := 14, hard := true }, { i := 15, hard := true }, { i := 16, hard := true }])] }
def H_slices_IndexFunc_Typing : Hint := { cuts := [{ id := 2, keep := [0, 1, 7, 8] }], joins := [], ords := [(4, [{ i := 0, hard := true }, { i := 1, hard := true }, { i := 2, hard := true }, { i := 3, hard := true }, { i := 4, hard := true }, { i := 5, hard := true, cl := [15] }])] }
def H_slices_ContainsFunc_Typing : Hint := { cuts := [], joins := [], ords := [] }
def H_impl_IsCtx : Hint := { cuts := [], joins := [], ords := [] }
def H_impl_OpArity : Hint := { cuts := [], joins := [], ords := [] }
def H_impl_arity : Hint := { cuts := [], joins := [], ords := [] }
def H_impl_isNumber : Hint := { cuts := [], joins := [], ords := [] }
def H_impl_isNamed : Hint := { cuts := [], joins := [], ords := [(12, [{ i := 0, hard := true }, { i := 1, hard := true }, { i := 2, hard := true }, { i := 3, hard := true }, { i := 4, hard := true }, { i := 5, hard := true }, { i := 6, hard := true, cl := [34] }, { i := 7, hard := true }, { i := 8, hard := true }]),
  (14, [{ i := 0, hard := true }, { i := 1, hard := true }, { i := 2, hard := true }, { i := 3, hard := true }, { i := 4, hard := true }, { i := 5, hard := true }, { i := 6, hard := true }, { i := 7, hard := true }, { i := 8, hard := true }, { i := 9, hard := true }, { i := 10, hard := true }, { i := 11, hard := true }, { i := 12, hard := true }, { i := 13, hard := true }, { i := 14, hard := true }, { i := 15, hard := true }, { i := 16, hard := true }, { i := 17, hard := true }, { i := 18, hard := true, cl := [56] }, { i := 19, hard := true }, { i := 20, hard := true }, { i := 21, hard := true }, { i := 22, hard := true }, { i := 23, hard := true, cl := [61] }, { i := 24, hard := true }, { i := 25, hard := true }])] }
def H_slices_EqualFunc_Type : Hint := { cuts := [{ id := 4, keep := [1, 2, 15, 16, 17] }], joins := [], ords := [(7, [{ i := 0, hard := true }, { i := 1, hard := true }, { i := 2, hard := true }, { i := 3, hard := true, cl := [27, 28] }, { i := 4, hard := true }])] }
def H_impl_EqualType : Hint := { cuts := [], joins := [], ords := [] }
def H_impl_isForm : Hint := { cuts := [], joins := [], ords := [(1, [{ i := 0 }, { i := 1 }, { i := 2 }, { i := 3 }, { i := 4, hard := true, cl := [7] }, { i := 5 }]),
  (14, [{ i := 0 }, { i := 1 }, { i := 2 }, { i := 3 }, { i := 4 }, { i := 5, hard := true }, { i := 6 }, { i := 7, hard := true }]),
  (16, [{ i := 0 }, { i := 1 }, { i := 2 }, { i := 3 }, { i := 4 }, { i := 5 }, { i := 6 }, { i := 7 }, { i := 8 }, { i := 9, hard := true }, { i := 10 }, { i := 11, hard := true }, { i := 12 }, { i := 13, hard := true }, { i := 14 }, { i := 15, hard := true }]),
  (17, [{ i := 0, hard := true }, { i := 1, hard := true, cl := [54] }, { i := 2, hard := true }, { i := 3, hard := true }, { i := 4, hard := true }, { i := 5, hard := true }, { i := 6, hard := true }, { i := 7, hard := true }, { i := 8, hard := true }, { i := 9, hard := true }, { i := 10, hard := true }, { i := 11, hard := true }, { i := 12, hard := true }, { i := 13, hard := true }, { i := 14, hard := true }, { i := 15, hard := true }, { i := 16, hard := true }, { i := 17, hard := true }, { i := 18, hard := true }, { i := 19, hard := true }, { i := 20, hard := true }, { i := 21, hard := true }, { i := 22, hard := true }, { i := 23, hard := true }, { i := 24, hard := true }, { i := 25, hard := true }, { i := 26, hard := true }, { i := 27, hard := true }, { i := 28, hard := true, cl := [79, 81] }, { i := 29, hard := true }, { i := 30, hard := true }, { i := 31, hard := true }, { i := 32, hard := true }, { i := 33, hard := true }, { i := 34, hard := true }, { i := 35, hard := true, cl := [86, 88] }, { i := 36, hard := true }, { i := 37, hard := true }])] }
def H_impl_allTerms_1 : Hint := { cuts := [], joins := [], ords := [(1, [{ i := 0, hard := true }, { i := 1, hard := true }, { i := 2, hard := true, cl := [4] }, { i := 3, hard := true }, { i := 4, hard := true }])] }
def H_slices_IndexFunc_Term : Hint := { cuts := [{ id := 2, keep := [0, 1, 7, 8] }], joins := [], ords := [(4, [{ i := 0, hard := true }, { i := 1, hard := true }, { i := 2, hard := true }, { i := 3, hard := true }, { i := 4, hard := true }, { i := 5, hard := true, cl := [15] }])] }
def H_slices_ContainsFunc_Term : Hint := { cuts := [], joins := [], ords := [] }
def H_impl_allTerms : Hint := { cuts := [], joins := [], ords := [(1, [{ i := 0, hard := true }, { i := 1, hard := true }, { i := 2, hard := true, cl := [6] }, { i := 3, hard := true }, { i := 4, hard := true }, { i := 5, hard := true }, { i := 6, hard := true }, { i := 7, hard := true }, { i := 8, hard := true }, { i := 9, hard := true }, { i := 10, hard := true }])] }
def H_impl_IsTerm : Hint := { cuts := [], joins := [], ords := [(1, [{ i := 0, hard := true }, { i := 1, hard := true, cl := [3] }, { i := 2, hard := true }])] }
def H_impl_LevelsOk_1 : Hint := { cuts := [], joins := [], ords := [] }
def H_impl_partLevel : Hint := { cuts := [], joins := [], ords := [] }
def H_impl_levels : Hint := { cuts := [{ id := 4, keep := [1, 2, 3, 15, 16, 17] }], joins := [], ords := [(1, [{ i := 0, hard := true }, { i := 1, hard := true }, { i := 2, hard := true }, { i := 3, hard := true, cl := [10] }, { i := 4, hard := true }]),
  (6, [{ i := 0 }, { i := 1 }, { i := 2 }, { i := 4 }, { i := 3, hard := true, cl := [22] }, { i := 5, hard := true, cl := [21] }, { i := 6 }])] }
def H_impl_LevelsOk : Hint := { cuts := [], joins := [], ords := [(1, [{ i := 0, hard := true }, { i := 1, hard := true, cl := [5] }, { i := 2, hard := true }, { i := 3, hard := true }, { i := 4, hard := true }, { i := 5, hard := true, cl := [8] }, { i := 6, hard := true }, { i := 7, hard := true }])] }
def H_impl_formType_1 : Hint := { cuts := [], joins := [], ords := [(1, [{ i := 0 }, { i := 1 }, { i := 2 }, { i := 3 }, { i := 4 }, { i := 5 }, { i := 6 }, { i := 7, hard := true, cl := [11] }, { i := 8, hard := true }])] }
def H_impl_counting : Hint := { cuts := [{ id := 2, keep := [0, 1, 5] }], joins := [], ords := [] }
def H_impl_Type_own : Hint := { cuts := [{ id := 3, keep := [2, 3, 10, 11, 12] }], joins := [], ords := [(5, [{ i := 0 }, { i := 1 }, { i := 2 }, { i := 3, hard := true, cl := [18] }, { i := 4 }, { i := 5, hard := true }, { i := 6 }, { i := 7, hard := true }])] }
def H_impl_tyInt : Hint := { cuts := [], joins := [], ords := [] }
def H_impl_tyBool : Hint := { cuts := [], joins := [], ords := [] }
def H_impl_opType : Hint := { cuts := [{ id := 11, keep := [4, 5, 6, 22, 23, 24] }], joins := [], ords := [(13, [{ i := 0, hard := true }, { i := 1, hard := true }, { i := 2, hard := true, cl := [28, 29] }, { i := 3, hard := true }])] }
def H_slices_Clone_Typing : Hint := { cuts := [], joins := [], ords := [] }
def H_impl_with : Hint := { cuts := [], joins := [], ords := [] }
def H_impl_tyFun : Hint := { cuts := [], joins := [], ords := [(1, [{ i := 0 }, { i := 2 }, { i := 1, hard := true, cl := [5] }, { i := 3, hard := true, cl := [7] }, { i := 4 }, { i := 5 }, { i := 6, hard := true }])] }
def H_impl_tyCode : Hint := { cuts := [], joins := [], ords := [(1, [{ i := 0, hard := true }, { i := 1, hard := true, cl := [3] }, { i := 2, hard := true }, { i := 3, hard := true }, { i := 4, hard := true }])] }
def H_impl_codeOf : Hint := { cuts := [], joins := [], ords := [(3, [{ i := 0, hard := true }, { i := 1, hard := true }, { i := 2, hard := true }, { i := 3, hard := true }, { i := 4, hard := true, cl := [10] }, { i := 5, hard := true }])] }
def H_impl_IsBase : Hint := { cuts := [], joins := [], ords := [] }
def H_impl_SafeCtx : Hint := { cuts := [{ id := 3, keep := [0, 1, 5, 9, 10, 11], nils := [(5, 70, 4)] }], joins := [], ords := [(5, [{ i := 0, hard := true }, { i := 1, hard := true }, { i := 2, hard := true, cl := [17] }, { i := 3, hard := true }, { i := 4, hard := true }, { i := 5, hard := true }, { i := 6, hard := true }, { i := 7, hard := true }, { i := 8, hard := true }, { i := 9, hard := true }, { i := 10, hard := true }, { i := 11, hard := true }, { i := 12, hard := true }, { i := 13, hard := true }, { i := 14, hard := true }, { i := 15, hard := true }, { i := 16, hard := true }]),
  (6, [{ i := 0 }, { i := 1 }, { i := 2 }, { i := 3 }, { i := 4 }, { i := 6 }, { i := 7 }, { i := 5, hard := true, cl := [37] }, { i := 8 }, { i := 9 }, { i := 10, hard := true }, { i := 11, hard := true }])] }
def H_impl_stageType : Hint := { cuts := [], joins := [], ords := [(3, [{ i := 0, hard := true }, { i := 1, hard := true }, { i := 2, hard := true }, { i := 3, hard := true }, { i := 4, hard := true }, { i := 5, hard := true }, { i := 6, hard := true }, { i := 7, hard := true, cl := [17] }, { i := 8, hard := true }, { i := 9, hard := true }]),
  (5, [{ i := 0, hard := true }, { i := 1, hard := true, cl := [24] }, { i := 2, hard := true }]),
  (7, [{ i := 0, hard := true }, { i := 1, hard := true }, { i := 2, hard := true }, { i := 3, hard := true }, { i := 4, hard := true }, { i := 5, hard := true }, { i := 6, hard := true }, { i := 7, hard := true, cl := [32] }, { i := 8, hard := true, cl := [35] }, { i := 9, hard := true }]),
  (9, [{ i := 0 }, { i := 1 }, { i := 3 }, { i := 4 }, { i := 5 }, { i := 6 }, { i := 7 }, { i := 2, hard := true }, { i := 8, hard := true, cl := [45] }, { i := 9, hard := true, cl := [47] }, { i := 10, hard := true }]),
  (11, [{ i := 0, hard := true }, { i := 1, hard := true }, { i := 2, hard := true }, { i := 3, hard := true }, { i := 4, hard := true }, { i := 5, hard := true }, { i := 6, hard := true, cl := [55] }, { i := 7, hard := true }, { i := 8, hard := true }]),
  (12, [{ i := 0, hard := true }, { i := 1, hard := true, cl := [58] }]),
  (13, [{ i := 0, hard := true }, { i := 1, hard := true, cl := [60] }, { i := 2, hard := true }])] }
def H_impl_formType : Hint := { cuts := [{ id := 15, keep := [4, 6, 7, 9, 57, 58], nils := [(9, 33, 2)] }], joins := [], ords := [(5, [{ i := 0 }, { i := 1 }, { i := 2 }, { i := 3 }, { i := 4 }, { i := 5 }, { i := 6 }, { i := 7 }, { i := 8 }, { i := 9 }, { i := 10 }]),
  (6, [{ i := 0, hard := true }, { i := 1, hard := true }, { i := 2, hard := true }, { i := 3, hard := true }, { i := 4, hard := true }, { i := 5, hard := true, cl := [43] }, { i := 6, hard := true }]),
  (22, [{ i := 0, hard := true }, { i := 1, hard := true }, { i := 2, hard := true }, { i := 3, hard := true, cl := [79, 80] }, { i := 4, hard := true }, { i := 5, hard := true }, { i := 6, hard := true }, { i := 7, hard := true, cl := [83, 84] }, { i := 8, hard := true }]),
  (27, [{ i := 0 }, { i := 1 }, { i := 2 }, { i := 3 }, { i := 4 }, { i := 5 }, { i := 6 }, { i := 7 }, { i := 8 }, { i := 9, hard := true, cl := [102, 103] }, { i := 10 }]),
  (28, [{ i := 0, hard := true }, { i := 1, hard := true }, { i := 2, hard := true }, { i := 3, hard := true }, { i := 4, hard := true, cl := [109] }, { i := 5, hard := true }]),
  (31, [{ i := 0 }, { i := 1 }, { i := 2 }, { i := 3 }, { i := 4 }, { i := 5 }, { i := 6 }, { i := 7 }, { i := 9 }, { i := 10 }, { i := 11 }, { i := 12 }, { i := 13 }, { i := 15 }, { i := 8, hard := true }, { i := 14, hard := true, cl := [126] }, { i := 16, hard := true }]),
  (34, [{ i := 0, hard := true }, { i := 1, hard := true }, { i := 2, hard := true }, { i := 3, hard := true, cl := [134, 135] }, { i := 4, hard := true }]),
  (39, [{ i := 0 }, { i := 1 }, { i := 2 }, { i := 3 }, { i := 4 }, { i := 5 }, { i := 6 }, { i := 8 }, { i := 9 }, { i := 10 }, { i := 11 }, { i := 12 }, { i := 7, hard := true }, { i := 13, hard := true, cl := [156] }, { i := 14, hard := true }]),
  (41, [{ i := 0, hard := true }, { i := 1, hard := true }, { i := 2, hard := true }, { i := 3, hard := true }, { i := 4, hard := true, cl := [162, 164] }, { i := 5, hard := true }, { i := 6, hard := true }]),
  (42, [{ i := 0 }, { i := 1 }, { i := 2 }, { i := 3 }, { i := 4 }, { i := 5 }, { i := 6 }, { i := 7 }, { i := 8 }, { i := 9 }, { i := 10 }, { i := 11 }, { i := 12 }, { i := 14 }, { i := 15 }, { i := 16 }, { i := 17 }, { i := 18 }, { i := 20 }, { i := 13, hard := true }, { i := 19, hard := true, cl := [183] }, { i := 21, hard := true }]),
  (43, [{ i := 0, hard := true }, { i := 1, hard := true }, { i := 2, hard := true }, { i := 3, hard := true, cl := [186, 188] }]),
  (46, [{ i := 0, hard := true }, { i := 1, hard := true }, { i := 2, hard := true }, { i := 3, hard := true, cl := [193] }, { i := 4, hard := true }])] }
def H_impl_typed : Hint := { cuts := [], joins := [], ords := [(1, [{ i := 0, hard := true }, { i := 1, hard := true }, { i := 2, hard := true }, { i := 3, hard := true, cl := [9] }, { i := 4, hard := true }, { i := 5, hard := true }]),
  (2, [{ i := 0, hard := true }, { i := 1, hard := true, cl := [12] }, { i := 2, hard := true }])] }
def H_impl_TypeOf : Hint := { cuts := [], joins := [], ords := [(1, [{ i := 0, hard := true }, { i := 1, hard := true }, { i := 2, hard := true }, { i := 3, hard := true }, { i := 4, hard := true }, { i := 5, hard := true }, { i := 6, hard := true, cl := [13] }, { i := 7, hard := true }, { i := 8, hard := true }]),
  (3, [{ i := 0, hard := true }, { i := 1, hard := true }, { i := 2, hard := true }, { i := 3, hard := true, cl := [20] }, { i := 4, hard := true }, { i := 5, hard := true }]),
  (4, [{ i := 0 }, { i := 1 }, { i := 2 }, { i := 3 }, { i := 4, hard := true }, { i := 5 }])] }
def L_slices_Index__str_2 (Q : QT [.int .i64]) (N0 : Nat) (a0 : Option Addr) (e0 : List D) (c0 : Nat) (s1 : ByteArray) (n7 : Int) (n8 : Int) (N : Nat) : Prop := AT prog 132 [.int .i64] Q N0 .ord (loopAt prog 132 2) ⟨[.sv a0 0 e0 c0, .str s1, .any, .any, .any, .any, .any, .int .i64 n7, .int .i64 n8, .any, .any, .any, .any, .any, .any, .any, .any, .any, .any], [], N, none⟩
def L_impl_IsName_2 (Q : QT [.bool]) (N0 : Nat) (s0 : ByteArray) (n6 : Int) (n7 : Int) (N : Nat) : Prop := AT prog 78 [.bool] Q N0 .ord (loopAt prog 78 2) ⟨[.str s0, .any, .any, .any, .any, .any, .int .i64 n6, .int .i64 n7, .any, .any, .any, .any, .any, .any, .any, .any, .any, .any, .any, .any, .any, .any, .any, .any, .any, .any, .any, .any, .any, .any, .any, .any, .any, .any, .any, .any, .any, .any, .any, .any, .any, .any, .any, .any, .any, .any, .any, .any], [], N, none⟩
def L_impl_SizeOfType_3 (Q : QT [.int .i64]) (N0 : Nat) (n3 : Int) (a7 : Option Addr) (e7 : List D) (c7 : Nat) (n8 : Int) (n9 : Int) (N : Nat) : Prop := AT prog 114 [.int .i64] Q N0 .ord (loopAt prog 114 3) ⟨[.any, .any, .any, .int .i64 n3, .any, .any, .any, .sv a7 2 e7 c7, .int .i64 n8, .int .i64 n9, .any, .any, .any, .any, .any, .any, .any, .any, .any], [], N, none⟩
def L_impl_DepthOfType_3 (Q : QT [.int .i64]) (N0 : Nat) (n3 : Int) (a7 : Option Addr) (e7 : List D) (c7 : Nat) (n8 : Int) (n9 : Int) (N : Nat) : Prop := AT prog 115 [.int .i64] Q N0 .ord (loopAt prog 115 3) ⟨[.any, .any, .any, .int .i64 n3, .any, .any, .any, .sv a7 2 e7 c7, .int .i64 n8, .int .i64 n9, .any, .any, .any, .any, .any, .any, .any, .any, .any, .any], [], N, none⟩
def L_impl_counting_2 (Q : QT [.int .i64]) (N0 : Nat) (a0 : Option Addr) (e0 : List D) (c0 : Nat) (s1 : ByteArray) (n5 : Int) (N : Nat) : Prop := AT prog 121 [.int .i64] Q N0 .ord (loopAt prog 121 2) ⟨[.sv a0 4 e0 c0, .str s1, .any, .any, .any, .int .i64 n5, .any, .any, .any, .any, .any, .any, .any, .any, .any, .any, .any, .any, .any, .any, .any], [], N, none⟩
def L_impl_Type_own_3 (Q : QT [.ag 2]) (N0 : Nat) (a10 : Option Addr) (e10 : List D) (c10 : Nat) (n11 : Int) (n12 : Int) (n0_0 : Int) (a0_1 : Option Addr) (e0_1 : List D) (c0_1 : Nat) (n1_0 : Int) (a1_1 : Option Addr) (e1_1 : List D) (c1_1 : Nat) (N : Nat) : Prop := AT prog 122 [.ag 2] Q N0 .ord (loopAt prog 122 3) ⟨[.any, .any, .pb 0 0 0 0, .pb 1 0 0 0, .any, .any, .any, .any, .any, .any, .sv a10 2 e10 c10, .int .i64 n11, .int .i64 n12, .any, .any, .any, .any, .any, .any, .any, .any, .any, .any, .any, .any], [.var [.int .i64 n0_0, .sv a0_1 2 e0_1 c0_1], .var [.int .i64 n1_0, .sv a1_1 2 e1_1 c1_1]], N, none⟩
def L_impl_opType_11 (Q : QT [.ag 2]) (N0 : Nat) (a22 : Option Addr) (e22 : List D) (c22 : Nat) (n23 : Int) (n24 : Int) (n0_0 : Int) (a0_1 : Option Addr) (e0_1 : List D) (c0_1 : Nat) (y1 : D) (y2 : D) (N : Nat) : Prop := AT prog 125 [.ag 2] Q N0 .ord (loopAt prog 125 11) ⟨[.any, .any, .any, .any, .pb 0 0 0 0, .pb 1 0 0 0, .pb 2 0 0 0, .any, .any, .any, .any, .any, .any, .any, .any, .any, .any, .any, .any, .any, .any, .any, .sv a22 2 e22 c22, .int .i64 n23, .int .i64 n24, .any, .any, .any, .any, .any, .any, .any, .any, .any, .any], [.var [.int .i64 n0_0, .sv a0_1 2 e0_1 c0_1], .vd y1 2, .vd y2 2], N, none⟩
def L_impl_SafeCtx_3 (Q : QT [.sl 4]) (N0 : Nat) (a0 : Option Addr) (e0 : List D) (c0 : Nat) (n1 : Int) (m5 : Nat) (c5 : Nat) (a9 : Option Addr) (e9 : List D) (c9 : Nat) (n10 : Int) (n11 : Int) (r0 : List D) (q0 : Nat) (N : Nat) : Prop := AT prog 152 [.sl 4] Q N0 .ord (loopAt prog 152 3) ⟨[.sv a0 4 e0 c0, .int .i64 n1, .any, .any, .any, .sb 0 4 0 m5 c5, .any, .any, .any, .sv a9 4 e9 c9, .int .i64 n10, .int .i64 n11, .any, .any, .any, .any, .any, .any, .any, .any, .any, .any, .any, .any, .any, .any, .any, .any, .any, .any, .any, .any, .any, .any, .any, .any, .any, .any, .any, .any, .any, .any, .any, .any, .any, .any], [.arr 70 4 r0 q0], N, none⟩
def L_impl_formType_15 (Q : QT [.ag 2]) (N0 : Nat) (m9 : Nat) (c9 : Nat) (n57 : Int) (n58 : Int) (y0 : D) (n1_0 : Int) (a1_1 : Option Addr) (e1_1 : List D) (c1_1 : Nat) (a2_0 : Option Addr) (e2_0 : List D) (c2_0 : Nat) (n3_0 : Int) (r4 : List D) (q4 : Nat) (N : Nat) : Prop := AT prog 83 [.ag 2] Q N0 .ord (loopAt prog 83 15) ⟨[.any, .any, .any, .any, .pb 0 0 0 0, .any, .pb 1 0 0 0, .fn 120 [.pb 2 0 0 0, .pb 0 0 0 0, .pb 3 0 0 0], .any, .sb 4 2 0 m9 c9, .any, .any, .any, .any, .any, .any, .any, .any, .any, .any, .any, .any, .any, .any, .any, .any, .any, .any, .any, .any, .any, .any, .any, .any, .any, .any, .any, .any, .any, .any, .any, .any, .any, .any, .any, .any, .any, .any, .any, .any, .any, .any, .any, .any, .any, .any, .any, .int .i64 n57, .int .i64 n58, .any, .any, .any, .any, .any, .any, .any, .any, .any, .any, .any, .any, .any, .any, .any, .any, .any, .any, .any, .any, .any, .any, .any, .any, .any, .any, .any, .any, .any, .any, .any, .any, .any, .any, .any, .any, .any, .any, .any, .any, .any, .any, .any, .any, .any, .any, .any, .any, .any, .any, .any, .any, .any, .any, .any, .any, .any, .any, .any, .any, .any, .any, .any, .any, .any, .any, .any, .any, .any, .any, .any, .any, .any, .any, .any, .any, .any, .any, .any, .any, .any, .any, .any, .any, .any, .any, .any, .any, .any, .any, .any, .any, .any, .any, .any, .any, .any, .any, .any, .any, .any, .any, .any, .any, .any, .any, .any, .any, .any, .any, .any, .any, .any, .any, .any, .any, .any, .any, .any, .any, .any, .any, .any, .any, .any, .any, .any, .any, .any, .any, .any, .any, .any, .any, .any, .any, .any], [.vd y0 9, .var [.int .i64 n1_0, .sv a1_1 2 e1_1 c1_1], .var [.sv a2_0 4 e2_0 c2_0], .var [.int .i64 n3_0], .arr 33 2 r4 q4], N, none⟩
def L_slices_EqualFunc_Type_4 (Q : QT [.bool]) (N0 : Nat) (a1 : Option Addr) (e1 : List D) (c1 : Nat) (a15 : Option Addr) (e15 : List D) (c15 : Nat) (n16 : Int) (n17 : Int) (N : Nat) : Prop := AT prog 148 [.bool] Q N0 .ord (loopAt prog 148 4) ⟨[.any, .sv a1 2 e1 c1, .fn 126 [], .any, .any, .any, .any, .any, .any, .any, .any, .any, .any, .any, .any, .sv a15 2 e15 c15, .int .i64 n16, .int .i64 n17, .any, .any, .any, .any, .any, .any, .any, .any, .any, .any, .any, .any, .any, .any], [], N, none⟩
def L_impl_levels_4 (Q : QT [.bool]) (N0 : Nat) (n1 : Int) (a15 : Option Addr) (e15 : List D) (c15 : Nat) (n16 : Int) (n17 : Int) (y0 : D) (N : Nat) : Prop := AT prog 81 [.bool] Q N0 .ord (loopAt prog 81 4) ⟨[.any, .int .i64 n1, .fn 82 [], .pb 0 0 0 0, .any, .any, .any, .any, .any, .any, .any, .any, .any, .any, .any, .sv a15 9 e15 c15, .int .i64 n16, .int .i64 n17, .any, .any, .any, .any, .any, .any, .any, .any, .any, .any, .any], [.vd y0 9], N, none⟩
def L_impl_Type_own_3_v1 (Q : QT [.ag 2]) (N0 : Nat) (a10 : Option Addr) (e10 : List D) (c10 : Nat) (n11 : Int) (n12 : Int) (n0_0 : Int) (a0_1 : Option Addr) (e0_1 : List D) (c0_1 : Nat) (n1_0 : Int) (m1_1 : Nat) (c1_1 : Nat) (r2 : List D) (q2 : Nat) (N : Nat) : Prop := AT prog 122 [.ag 2] Q N0 .ord (loopAt prog 122 3) ⟨[.any, .any, .pb 0 0 0 0, .pb 1 0 0 0, .any, .any, .any, .any, .any, .any, .sv a10 2 e10 c10, .int .i64 n11, .int .i64 n12, .any, .any, .any, .any, .any, .any, .any, .any, .any, .any, .any, .any], [.var [.int .i64 n0_0, .sv a0_1 2 e0_1 c0_1], .var [.int .i64 n1_0, .sb 2 2 0 m1_1 c1_1], .arr 33 2 r2 q2], N, none⟩
def L_slices_IndexFunc_Typing_2 (Q : QT [.int .i64]) (N0 : Nat) (a0 : Option Addr) (e0 : List D) (c0 : Nat) (n7 : Int) (n8 : Int) (N : Nat) : Prop := AT prog 112 [.int .i64] Q N0 .ord (loopAt prog 112 2) ⟨[.sv a0 4 e0 c0, .fn 77 [], .any, .any, .any, .any, .any, .int .i64 n7, .int .i64 n8, .any, .any, .any, .any, .any, .any, .any, .any, .any, .any], [], N, none⟩
def L_slices_IndexFunc_Type_2 (Q : QT [.int .i64]) (N0 : Nat) (a0 : Option Addr) (e0 : List D) (c0 : Nat) (a1_0 : Addr) (n7 : Int) (n8 : Int) (N : Nat) : Prop := AT prog 154 [.int .i64] Q N0 .ord (loopAt prog 154 2) ⟨[.sv a0 2 e0 c0, .fn 145 [.pd a1_0 0 (.fn 117 [])], .any, .any, .any, .any, .any, .int .i64 n7, .int .i64 n8, .any, .any, .any, .any, .any, .any, .any, .any, .any, .any], [], N, none⟩
def L_slices_IndexFunc_Term_2 (Q : QT [.int .i64]) (N0 : Nat) (a0 : Option Addr) (e0 : List D) (c0 : Nat) (a1_0 : Addr) (n7 : Int) (n8 : Int) (N : Nat) : Prop := AT prog 131 [.int .i64] Q N0 .ord (loopAt prog 131 2) ⟨[.sv a0 9 e0 c0, .fn 89 [.pd a1_0 0 (.fn 118 [])], .any, .any, .any, .any, .any, .int .i64 n7, .int .i64 n8, .any, .any, .any, .any, .any, .any, .any, .any, .any, .any], [], N, none⟩
theorem w_impl_within (N : Nat) (n0 : Int) (n1 : Int) (n2 : Int) (Q : QT [.bool]) (h :
(Br (decide ((n1 ≤ n0)))
(∀ (N_1 : Nat),
((N ≤ N_1) →
(Q (decide ((n0 ≤ n2))) N_1)))
(∀ (N_2 : Nat),
((N ≤ N_2) →
(Q false N_2))))) : ACalls prog 60 [.bool] [PV.int .i64 n0, PV.int .i64 n1, PV.int .i64 n2] N Q :=
  entryE (sh := sh) (H := H_impl_within) (fuel := 400) (by kernel_rfl) (by kernel_rfl) (by kernel_rfl) h
theorem w_slices_Index__str (N : Nat) (a0 : Option Addr) (e0 : List D) (c0 : Nat) (s1 : ByteArray) (Q : QT [.int .i64]) (h :
((Bel N (D.sl a0 0 e0 c0)) →
(L_slices_Index__str_2 Q N a0 e0 c0 s1 (((List.length e0) : Nat) : Int) (0 : Int) N))) : ACalls prog 132 [.int .i64] [PV.sv a0 0 e0 c0, PV.str s1] N Q :=
  entryE (sh := sh) (H := H_slices_Index__str) (fuel := 400) (by kernel_rfl) (by kernel_rfl) (by kernel_rfl) h
theorem w_slices_Contains__str (N : Nat) (a0 : Option Addr) (e0 : List D) (c0 : Nat) (s1 : ByteArray) (Q : QT [.bool]) (h :
((Bel N (D.sl a0 0 e0 c0)) →
(∀ (N_1 : Nat),
((N ≤ N_1) →
(ACalls prog 132 [(Sh.int IntKind.i64)] [PV.sv a0 0 e0 c0, PV.str s1] N_1 (fun (n : Int) => (fun (N_2 : Nat) => 
((N_1 ≤ N_2) →
(∀ (N_3 : Nat),
((N_2 ≤ N_3) →
(Q (decide ((n ≥ (0 : Int)))) N_3))))))))))) : ACalls prog 113 [.bool] [PV.sv a0 0 e0 c0, PV.str s1] N Q :=
  entryE (sh := sh) (H := H_slices_Contains__str) (fuel := 400) (by kernel_rfl) (by kernel_rfl) (by kernel_rfl) h
theorem w_impl_IsName (N : Nat) (s0 : ByteArray) (Q : QT [.bool]) (h :
(L_impl_IsName_2 Q N s0 (((ByteArray.size s0) : Nat) : Int) (0 : Int) N)) : ACalls prog 78 [.bool] [PV.str s0] N Q :=
  entryE (sh := sh) (H := H_impl_IsName) (fuel := 400) (by kernel_rfl) (by kernel_rfl) (by kernel_rfl) h
theorem w_impl_SizeOfType (N : Nat) (x0 : D) (Q : QT [.int .i64]) (h :
((Bel N x0) →
(∃ (a : Option Addr),
(∃ (es : List D),
(∃ (c : Nat),
(((D.cell x0 1) = (D.sl a 2 es c)) ∧
(L_impl_SizeOfType_3 Q N (1 : Int) a es c (((List.length es) : Nat) : Int) (0 : Int) N))))))) : ACalls prog 114 [.int .i64] [PV.dg 2 x0] N Q :=
  entryE (sh := sh) (H := H_impl_SizeOfType) (fuel := 400) (by kernel_rfl) (by kernel_rfl) (by kernel_rfl) h
theorem w_impl_DepthOfType (N : Nat) (x0 : D) (Q : QT [.int .i64]) (h :
((Bel N x0) →
(∃ (a : Option Addr),
(∃ (es : List D),
(∃ (c : Nat),
(((D.cell x0 1) = (D.sl a 2 es c)) ∧
(L_impl_DepthOfType_3 Q N (0 : Int) a es c (((List.length es) : Nat) : Int) (0 : Int) N))))))) : ACalls prog 115 [.int .i64] [PV.dg 2 x0] N Q :=
  entryE (sh := sh) (H := H_impl_DepthOfType) (fuel := 400) (by kernel_rfl) (by kernel_rfl) (by kernel_rfl) h
theorem w_impl_IsValidType_1 (N : Nat) (x0 : D) (Q : QT [.bool]) (h :
((Bel N x0) →
(∃ (n : Int),
(((D.cell x0 0) = (D.lit (Value.int IntKind.i64 n))) ∧
(∀ (N_1 : Nat),
((N ≤ N_1) →
(ACalls prog 60 [Sh.bool] [PV.int .i64 n, PV.int .i64 (1 : Int), PV.int .i64 (4 : Int)] N_1 (fun (b : Bool) => (fun (N_2 : Nat) => 
((N_1 ≤ N_2) →
(Br b
(∃ (a : Option Addr),
(∃ (es : List D),
(∃ (c : Nat),
(((D.cell x0 1) = (D.sl a 2 es c)) ∧
(∃ (n_1 : Int),
(((D.cell x0 0) = (D.lit (Value.int IntKind.i64 n_1))) ∧
((((0 : Int) ≤ (IntKind.i64.wrap (n_1 - (1 : Int) : Int))) ∧
(((IntKind.i64.wrap (n_1 - (1 : Int) : Int)) < (4 : Int)) ∧
((0 + (Int.toNat (IntKind.i64.wrap (n_1 - (1 : Int) : Int))) : Nat) < 4))) ∧
(((0 + (Int.toNat (IntKind.i64.wrap (n_1 - (1 : Int) : Int))) : Nat) < 4) ∧
(∃ (n_2 : Int),
(((List.getD [(D.lit (Value.int IntKind.i64 (0 : Int))), (D.lit (Value.int IntKind.i64 (0 : Int))), (D.lit (Value.int IntKind.i64 (2 : Int))), (D.lit (Value.int IntKind.i64 (1 : Int)))] (0 + (Int.toNat (IntKind.i64.wrap (n_1 - (1 : Int) : Int))) : Nat) Inhabited.default) = (D.lit (Value.int IntKind.i64 n_2))) ∧
(∀ (N_3 : Nat),
((N_2 ≤ N_3) →
(Q ((((List.length es) : Nat) : Int) == n_2) N_3)))))))))))))
(∀ (N_4 : Nat),
((N_2 ≤ N_4) →
(Q false N_4)))))))))))))) : ACalls prog 117 [.bool] [PV.dg 2 x0] N Q :=
  entryE (sh := sh) (H := H_impl_IsValidType_1) (fuel := 400) (by kernel_rfl) (by kernel_rfl) (by kernel_rfl) h
theorem w_impl_IsValidType (N : Nat) (x0 : D) (Q : QT [.bool]) (h :
((Bel N x0) →
(∀ (N_1 : Nat),
((N ≤ N_1) →
(ACalls prog 114 [(Sh.int IntKind.i64)] [PV.dg 2 x0] N_1 (fun (n : Int) => (fun (N_2 : Nat) => 
((N_1 ≤ N_2) →
(Br (decide ((n ≤ (30 : Int))))
(∀ (N_3 : Nat),
((N_2 ≤ N_3) →
(ACalls prog 115 [(Sh.int IntKind.i64)] [PV.dg 2 x0] N_3 (fun (n_1 : Int) => (fun (N_4 : Nat) => 
((N_3 ≤ N_4) →
(Br (decide ((n_1 ≤ (8 : Int))))
(∀ (N_5 : Nat),
((N_4 ≤ N_5) →
(ACalls prog 116 [Sh.bool] [PV.dg 2 x0, PV.fn 117 []] N_5 (fun (b : Bool) => (fun (N_6 : Nat) => 
((N_5 ≤ N_6) →
(∀ (N_7 : Nat),
((N_6 ≤ N_7) →
(Q b N_7)))))))))
(∀ (N_8 : Nat),
((N_4 ≤ N_8) →
(Q false N_8))))))))))
(∀ (N_9 : Nat),
((N_2 ≤ N_9) →
(Q false N_9)))))))))))) : ACalls prog 79 [.bool] [PV.dg 2 x0] N Q :=
  entryE (sh := sh) (H := H_impl_IsValidType) (fuel := 400) (by kernel_rfl) (by kernel_rfl) (by kernel_rfl) h
theorem w_impl_IsCtx_1 (N : Nat) (x0 : D) (Q : QT [.bool]) (h :
((Bel N x0) →
(∃ (s : ByteArray),
(((D.cell x0 0) = (D.lit (Value.string s))) ∧
(∀ (N_1 : Nat),
((N ≤ N_1) →
(ACalls prog 78 [Sh.bool] [PV.str s] N_1 (fun (b : Bool) => (fun (N_2 : Nat) => 
((N_1 ≤ N_2) →
(Br (!b)
(∀ (N_3 : Nat),
((N_2 ≤ N_3) →
(Q true N_3)))
(∀ (N_4 : Nat),
((N_2 ≤ N_4) →
(ACalls prog 79 [Sh.bool] [PV.dg 2 (D.sub x0 1 2)] N_4 (fun (b_1 : Bool) => (fun (N_5 : Nat) => 
((N_4 ≤ N_5) →
(Br (!b_1)
(∀ (N_6 : Nat),
((N_5 ≤ N_6) →
(Q true N_6)))
(∃ (n : Int),
(((D.cell x0 3) = (D.lit (Value.int IntKind.i64 n))) ∧
(∀ (N_7 : Nat),
((N_5 ≤ N_7) →
(ACalls prog 60 [Sh.bool] [PV.int .i64 n, PV.int .i64 (0 : Int), PV.int .i64 (2 : Int)] N_7 (fun (b_2 : Bool) => (fun (N_8 : Nat) => 
((N_7 ≤ N_8) →
(∀ (N_9 : Nat),
((N_8 ≤ N_9) →
(Q (!b_2) N_9))))))))))))))))))))))))))))) : ACalls prog 77 [.bool] [PV.dg 4 x0] N Q :=
  entryE (sh := sh) (H := H_impl_IsCtx_1) (fuel := 400) (by kernel_rfl) (by kernel_rfl) (by kernel_rfl) h
theorem w_impl_IsCtx (N : Nat) (a0 : Option Addr) (e0 : List D) (c0 : Nat) (Q : QT [.bool]) (h :
((Bel N (D.sl a0 4 e0 c0)) →
(Br (decide (((((List.length e0) : Nat) : Int) ≤ (12 : Int))))
(∀ (N_1 : Nat),
((N ≤ N_1) →
(ACalls prog 76 [Sh.bool] [PV.sv a0 4 e0 c0, PV.fn 77 []] N_1 (fun (b : Bool) => (fun (N_2 : Nat) => 
((N_1 ≤ N_2) →
(∀ (N_3 : Nat),
((N_2 ≤ N_3) →
(Q (!b) N_3)))))))))
(∀ (N_4 : Nat),
((N ≤ N_4) →
(Q false N_4)))))) : ACalls prog 42 [.bool] [PV.sv a0 4 e0 c0] N Q :=
  entryE (sh := sh) (H := H_impl_IsCtx) (fuel := 400) (by kernel_rfl) (by kernel_rfl) (by kernel_rfl) h
theorem w_impl_OpArity (N : Nat) (s0 : ByteArray) (Q : QT [.int .i64]) (h :
(Br ((ByteArray.toList s0) == (ByteArray.toList (bytes [43])))
(∀ (N_1 : Nat),
((N ≤ N_1) →
(Q (2 : Int) N_1)))
(Br ((ByteArray.toList s0) == (ByteArray.toList (bytes [45])))
(∀ (N_2 : Nat),
((N ≤ N_2) →
(Q (2 : Int) N_2)))
(Br ((ByteArray.toList s0) == (ByteArray.toList (bytes [42])))
(∀ (N_3 : Nat),
((N ≤ N_3) →
(Q (2 : Int) N_3)))
(Br ((ByteArray.toList s0) == (ByteArray.toList (bytes [61])))
(∀ (N_4 : Nat),
((N ≤ N_4) →
(Q (2 : Int) N_4)))
(Br ((ByteArray.toList s0) == (ByteArray.toList (bytes [60])))
(∀ (N_5 : Nat),
((N ≤ N_5) →
(Q (2 : Int) N_5)))
(Br ((ByteArray.toList s0) == (ByteArray.toList (bytes [38])))
(∀ (N_6 : Nat),
((N ≤ N_6) →
(Q (2 : Int) N_6)))
(Br ((ByteArray.toList s0) == (ByteArray.toList (bytes [124])))
(∀ (N_7 : Nat),
((N ≤ N_7) →
(Q (2 : Int) N_7)))
(Br ((ByteArray.toList s0) == (ByteArray.toList (bytes [33])))
(∀ (N_8 : Nat),
((N ≤ N_8) →
(Q (1 : Int) N_8)))
(∀ (N_9 : Nat),
((N ≤ N_9) →
(Q (0 : Int) N_9)))))))))))) : ACalls prog 155 [.int .i64] [PV.str s0] N Q :=
  entryE (sh := sh) (H := H_impl_OpArity) (fuel := 400) (by kernel_rfl) (by kernel_rfl) (by kernel_rfl) h
theorem w_impl_arity (N : Nat) (x0 : D) (Q : QT [.int .i64]) (h :
((Bel N x0) →
(∃ (n : Int),
(((D.cell x0 0) = (D.lit (Value.int IntKind.i64 n))) ∧
(Br (n == (4 : Int))
(∃ (s : ByteArray),
(((D.cell x0 1) = (D.lit (Value.string s))) ∧
(∀ (N_1 : Nat),
((N ≤ N_1) →
(ACalls prog 155 [(Sh.int IntKind.i64)] [PV.str s] N_1 (fun (n_1 : Int) => (fun (N_2 : Nat) => 
((N_1 ≤ N_2) →
(∀ (N_3 : Nat),
((N_2 ≤ N_3) →
(Q n_1 N_3)))))))))))
(Br (n == (5 : Int))
(∀ (N_4 : Nat),
((N ≤ N_4) →
(Q (3 : Int) N_4)))
(Br (n == (7 : Int))
(∀ (N_5 : Nat),
((N ≤ N_5) →
(Q (2 : Int) N_5)))
(Br (n == (8 : Int))
(∀ (N_6 : Nat),
((N ≤ N_6) →
(Q (2 : Int) N_6)))
(Br (n == (6 : Int))
(∀ (N_7 : Nat),
((N ≤ N_7) →
(Q (1 : Int) N_7)))
(Br (n == (9 : Int))
(∀ (N_8 : Nat),
((N ≤ N_8) →
(Q (1 : Int) N_8)))
(Br (n == (10 : Int))
(∀ (N_9 : Nat),
((N ≤ N_9) →
(Q (1 : Int) N_9)))
(Br (n == (11 : Int))
(∀ (N_10 : Nat),
((N ≤ N_10) →
(Q (1 : Int) N_10)))
(Br (n == (12 : Int))
(∀ (N_11 : Nat),
((N ≤ N_11) →
(Q (1 : Int) N_11)))
(Br (n == (13 : Int))
(∀ (N_12 : Nat),
((N ≤ N_12) →
(Q (1 : Int) N_12)))
(∀ (N_13 : Nat),
((N ≤ N_13) →
(Q (0 : Int) N_13))))))))))))))))) : ACalls prog 146 [.int .i64] [PV.dg 9 x0] N Q :=
  entryE (sh := sh) (H := H_impl_arity) (fuel := 400) (by kernel_rfl) (by kernel_rfl) (by kernel_rfl) h
theorem w_impl_isNumber (N : Nat) (n0 : Int) (Q : QT [.bool]) (h :
(∀ (N_1 : Nat),
((N ≤ N_1) →
(ACalls prog 60 [Sh.bool] [PV.int .i64 n0, PV.int .i64 (0 : Int), PV.int .i64 (10006 : Int)] N_1 (fun (b : Bool) => (fun (N_2 : Nat) => 
((N_1 ≤ N_2) →
(∀ (N_3 : Nat),
((N_2 ≤ N_3) →
(Q b N_3)))))))))) : ACalls prog 156 [.bool] [PV.int .i64 n0] N Q :=
  entryE (sh := sh) (H := H_impl_isNumber) (fuel := 400) (by kernel_rfl) (by kernel_rfl) (by kernel_rfl) h
theorem w_impl_isNamed (N : Nat) (x0 : D) (Q : QT [.bool]) (h :
((Bel N x0) →
(∃ (n : Int),
(((D.cell x0 0) = (D.lit (Value.int IntKind.i64 n))) ∧
(Br (n == (1 : Int))
(∃ (s : ByteArray),
(((D.cell x0 1) = (D.lit (Value.string s))) ∧
(∀ (N_1 : Nat),
((N ≤ N_1) →
(ACalls prog 78 [Sh.bool] [PV.str s] N_1 (fun (b : Bool) => (fun (N_2 : Nat) => 
((N_1 ≤ N_2) →
(∀ (N_3 : Nat),
((N_2 ≤ N_3) →
(Q b N_3)))))))))))
(Br (n == (8 : Int))
(∃ (s_1 : ByteArray),
(((D.cell x0 1) = (D.lit (Value.string s_1))) ∧
(∀ (N_4 : Nat),
((N ≤ N_4) →
(ACalls prog 78 [Sh.bool] [PV.str s_1] N_4 (fun (b_1 : Bool) => (fun (N_5 : Nat) => 
((N_4 ≤ N_5) →
(∀ (N_6 : Nat),
((N_5 ≤ N_6) →
(Q b_1 N_6)))))))))))
(Br (n == (2 : Int))
(∃ (n_1 : Int),
(((D.cell x0 3) = (D.lit (Value.int IntKind.i64 n_1))) ∧
(∀ (N_7 : Nat),
((N ≤ N_7) →
(ACalls prog 156 [Sh.bool] [PV.int .i64 n_1] N_7 (fun (b_2 : Bool) => (fun (N_8 : Nat) => 
((N_7 ≤ N_8) →
(∀ (N_9 : Nat),
((N_8 ≤ N_9) →
(Q b_2 N_9)))))))))))
(Br (n == (3 : Int))
(∃ (n_2 : Int),
(((D.cell x0 3) = (D.lit (Value.int IntKind.i64 n_2))) ∧
(∀ (N_10 : Nat),
((N ≤ N_10) →
(ACalls prog 60 [Sh.bool] [PV.int .i64 n_2, PV.int .i64 (0 : Int), PV.int .i64 (1 : Int)] N_10 (fun (b_3 : Bool) => (fun (N_11 : Nat) => 
((N_10 ≤ N_11) →
(∀ (N_12 : Nat),
((N_11 ≤ N_12) →
(Q b_3 N_12)))))))))))
(Br (n == (4 : Int))
(∃ (s_2 : ByteArray),
(((D.cell x0 1) = (D.lit (Value.string s_2))) ∧
(∀ (N_13 : Nat),
((N ≤ N_13) →
(ACalls prog 155 [(Sh.int IntKind.i64)] [PV.str s_2] N_13 (fun (n_3 : Int) => (fun (N_14 : Nat) => 
((N_13 ≤ N_14) →
(∀ (N_15 : Nat),
((N_14 ≤ N_15) →
(Q (decide ((n_3 > (0 : Int)))) N_15)))))))))))
(Br (n == (6 : Int))
(∃ (s_3 : ByteArray),
(((D.cell x0 1) = (D.lit (Value.string s_3))) ∧
(∀ (N_16 : Nat),
((N ≤ N_16) →
(ACalls prog 78 [Sh.bool] [PV.str s_3] N_16 (fun (b_4 : Bool) => (fun (N_17 : Nat) => 
((N_16 ≤ N_17) →
(Br b_4
(∀ (N_18 : Nat),
((N_17 ≤ N_18) →
(ACalls prog 79 [Sh.bool] [PV.dg 2 (D.sub x0 4 2)] N_18 (fun (b_5 : Bool) => (fun (N_19 : Nat) => 
((N_18 ≤ N_19) →
(∀ (N_20 : Nat),
((N_19 ≤ N_20) →
(Q b_5 N_20)))))))))
(∀ (N_21 : Nat),
((N_17 ≤ N_21) →
(Q false N_21))))))))))))
(Br (n == (9 : Int))
(∃ (s_4 : ByteArray),
(((D.cell x0 1) = (D.lit (Value.string s_4))) ∧
(∀ (N_22 : Nat),
((N ≤ N_22) →
(ACalls prog 78 [Sh.bool] [PV.str s_4] N_22 (fun (b_6 : Bool) => (fun (N_23 : Nat) => 
((N_22 ≤ N_23) →
(Br b_6
(∃ (s_5 : ByteArray),
(((D.cell x0 2) = (D.lit (Value.string s_5))) ∧
(∀ (N_24 : Nat),
((N_23 ≤ N_24) →
(ACalls prog 78 [Sh.bool] [PV.str s_5] N_24 (fun (b_7 : Bool) => (fun (N_25 : Nat) => 
((N_24 ≤ N_25) →
(Br b_7
(∃ (s_6 : ByteArray),
(((D.cell x0 1) = (D.lit (Value.string s_6))) ∧
(∃ (s_7 : ByteArray),
(((D.cell x0 2) = (D.lit (Value.string s_7))) ∧
(Br (!((ByteArray.toList s_6) == (ByteArray.toList s_7)))
(∀ (N_26 : Nat),
((N_25 ≤ N_26) →
(ACalls prog 79 [Sh.bool] [PV.dg 2 (D.sub x0 4 2)] N_26 (fun (b_8 : Bool) => (fun (N_27 : Nat) => 
((N_26 ≤ N_27) →
(Br b_8
(∀ (N_28 : Nat),
((N_27 ≤ N_28) →
(ACalls prog 79 [Sh.bool] [PV.dg 2 (D.sub x0 6 2)] N_28 (fun (b_9 : Bool) => (fun (N_29 : Nat) => 
((N_28 ≤ N_29) →
(∀ (N_30 : Nat),
((N_29 ≤ N_30) →
(Q b_9 N_30)))))))))
(∀ (N_31 : Nat),
((N_27 ≤ N_31) →
(Q false N_31))))))))))
(∀ (N_32 : Nat),
((N_25 ≤ N_32) →
(Q false N_32))))))))
(∀ (N_33 : Nat),
((N_25 ≤ N_33) →
(Q false N_33))))))))))))
(∀ (N_34 : Nat),
((N_23 ≤ N_34) →
(Q false N_34))))))))))))
(∃ (n_4 : Int),
(((D.cell x0 0) = (D.lit (Value.int IntKind.i64 n_4))) ∧
(∀ (N_35 : Nat),
((N ≤ N_35) →
(ACalls prog 60 [Sh.bool] [PV.int .i64 n_4, PV.int .i64 (1 : Int), PV.int .i64 (13 : Int)] N_35 (fun (b_10 : Bool) => (fun (N_36 : Nat) => 
((N_35 ≤ N_36) →
(∀ (N_37 : Nat),
((N_36 ≤ N_37) →
(Q b_10 N_37)))))))))))))))))))))) : ACalls prog 147 [.bool] [PV.dg 9 x0] N Q :=
  entryE (sh := sh) (H := H_impl_isNamed) (fuel := 400) (by kernel_rfl) (by kernel_rfl) (by kernel_rfl) h
theorem w_impl_EqualType (N : Nat) (x0 : D) (x1 : D) (Q : QT [.bool]) (h :
((Bel N x0) →
((Bel N x1) →
(∃ (n : Int),
(((D.cell x0 0) = (D.lit (Value.int IntKind.i64 n))) ∧
(∃ (n_1 : Int),
(((D.cell x1 0) = (D.lit (Value.int IntKind.i64 n_1))) ∧
(Br (n == n_1)
(∃ (a : Option Addr),
(∃ (es : List D),
(∃ (c : Nat),
(((D.cell x0 1) = (D.sl a 2 es c)) ∧
(∃ (a_1 : Option Addr),
(∃ (es_1 : List D),
(∃ (c_1 : Nat),
(((D.cell x1 1) = (D.sl a_1 2 es_1 c_1)) ∧
(∀ (N_1 : Nat),
((N ≤ N_1) →
(ACalls prog 148 [Sh.bool] [PV.sv a 2 es c, PV.sv a_1 2 es_1 c_1, PV.fn 126 []] N_1 (fun (b : Bool) => (fun (N_2 : Nat) => 
((N_1 ≤ N_2) →
(∀ (N_3 : Nat),
((N_2 ≤ N_3) →
(Q b N_3)))))))))))))))))
(∀ (N_4 : Nat),
((N ≤ N_4) →
(Q false N_4))))))))))) : ACalls prog 126 [.bool] [PV.dg 2 x0, PV.dg 2 x1] N Q :=
  entryE (sh := sh) (H := H_impl_EqualType) (fuel := 400) (by kernel_rfl) (by kernel_rfl) (by kernel_rfl) h
theorem w_impl_isForm (N : Nat) (x0 : D) (Q : QT [.bool]) (h :
((Bel N x0) → (∃ (a : Option Addr), (∃ (es : List D), (∃ (c : Nat), (((D.cell x0 8) = (D.sl
  a 9 es c)) ∧ (∀ (N_1 : Nat), ((N ≤ N_1) → (ACalls prog 146 [(Sh.int IntKind.i64)] [PV.dg 9 x0]
  N_1 (fun (n : Int) => (fun (N_2 : Nat) => ((N_1 ≤ N_2) → (Br (bne (((List.length es) : Nat)
  : Int) n) (∀ (N_3 : Nat), ((N_2 ≤ N_3) → (Q false N_3))) (∃ (n_1 : Int), (((D.cell x0 0) = (D.lit
  (Value.int IntKind.i64 n_1))) ∧ (∃ (n_2 : Int), (((D.cell x0 0) = (D.lit (Value.int IntKind.i64
  n_2))) ∧ (Br (n_2 == (1 : Int)) (∃ (s : ByteArray), (((D.cell x0 1) = (D.lit (Value.string s)))
  ∧ (∀ (N_4 : Nat), ((N_2 ≤ N_4) → (ACalls prog 147 [Sh.bool] [PV.dg 9 x0] N_4 (fun (b : Bool)
  => (fun (N_5 : Nat) => ((N_4 ≤ N_5) → (Br b (∃ (s_1 : ByteArray), (((D.cell x0 1) = (D.lit (Value.string
  s_1))) ∧ (Br ((ByteArray.toList s_1) == (ByteArray.toList s)) (∃ (s_2 : ByteArray), (((D.cell
  x0 2) = (D.lit (Value.string s_2))) ∧ (Br ((ByteArray.toList s_2) == (ByteArray.toList (bytes
  []))) (∃ (n_3 : Int), (((D.cell x0 3) = (D.lit (Value.int IntKind.i64 n_3))) ∧ (Br (n_3 == (0
  : Int)) (∀ (N_6 : Nat), ((N_5 ≤ N_6) → (ACalls prog 126 [Sh.bool] [PV.dg 2 (D.sub x0 4 2), PV.dg
  2 (D.ag [(D.lit (Value.int IntKind.i64 (0 : Int))), (D.sl Option.none 2 [] 0)])] N_6 (fun (b_1
  : Bool) => (fun (N_7 : Nat) => ((N_6 ≤ N_7) → (Br b_1 (∀ (N_8 : Nat), ((N_7 ≤ N_8) → (ACalls
  prog 126 [Sh.bool] [PV.dg 2 (D.sub x0 6 2), PV.dg 2 (D.ag [(D.lit (Value.int IntKind.i64 (0
  : Int))), (D.sl Option.none 2 [] 0)])] N_8 (fun (b_2 : Bool) => (fun (N_9 : Nat) => ((N_8 ≤
  N_9) → (∀ (N_10 : Nat), ((N_9 ≤ N_10) → (Q b_2 N_10))))))))) (∀ (N_11 : Nat), ((N_7 ≤ N_11)
  → (Q false N_11)))))))))) (∀ (N_12 : Nat), ((N_5 ≤ N_12) → (Q false N_12)))))) (∀ (N_13 : Nat),
  ((N_5 ≤ N_13) → (Q false N_13)))))) (∀ (N_14 : Nat), ((N_5 ≤ N_14) → (Q false N_14)))))) (∀
  (N_15 : Nat), ((N_5 ≤ N_15) → (Q false N_15)))))))))))) (Br (n_2 == (8 : Int)) (∃ (s_3 : ByteArray),
  (((D.cell x0 1) = (D.lit (Value.string s_3))) ∧ (∀ (N_16 : Nat), ((N_2 ≤ N_16) → (ACalls prog
  147 [Sh.bool] [PV.dg 9 x0] N_16 (fun (b_3 : Bool) => (fun (N_17 : Nat) => ((N_16 ≤ N_17) → (Br
  b_3 (∃ (s_4 : ByteArray), (((D.cell x0 1) = (D.lit (Value.string s_4))) ∧ (Br ((ByteArray.toList
  s_4) == (ByteArray.toList s_3)) (∃ (s_5 : ByteArray), (((D.cell x0 2) = (D.lit (Value.string
  s_5))) ∧ (Br ((ByteArray.toList s_5) == (ByteArray.toList (bytes []))) (∃ (n_4 : Int), (((D.cell
  x0 3) = (D.lit (Value.int IntKind.i64 n_4))) ∧ (Br (n_4 == (0 : Int)) (∀ (N_18 : Nat), ((N_17
  ≤ N_18) → (ACalls prog 126 [Sh.bool] [PV.dg 2 (D.sub x0 4 2), PV.dg 2 (D.ag [(D.lit (Value.int
  IntKind.i64 (0 : Int))), (D.sl Option.none 2 [] 0)])] N_18 (fun (b_4 : Bool) => (fun (N_19 :
  Nat) => ((N_18 ≤ N_19) → (Br b_4 (∀ (N_20 : Nat), ((N_19 ≤ N_20) → (ACalls prog 126 [Sh.bool]
  [PV.dg 2 (D.sub x0 6 2), PV.dg 2 (D.ag [(D.lit (Value.int IntKind.i64 (0 : Int))), (D.sl Option.none
  2 [] 0)])] N_20 (fun (b_5 : Bool) => (fun (N_21 : Nat) => ((N_20 ≤ N_21) → (∀ (N_22 : Nat),
  ((N_21 ≤ N_22) → (Q b_5 N_22))))))))) (∀ (N_23 : Nat), ((N_19 ≤ N_23) → (Q false N_23))))))))))
  (∀ (N_24 : Nat), ((N_17 ≤ N_24) → (Q false N_24)))))) (∀ (N_25 : Nat), ((N_17 ≤ N_25) → (Q false
  N_25)))))) (∀ (N_26 : Nat), ((N_17 ≤ N_26) → (Q false N_26)))))) (∀ (N_27 : Nat), ((N_17 ≤ N_27)
  → (Q false N_27)))))))))))) (Br (n_2 == (2 : Int)) (∃ (n_5 : Int), (((D.cell x0 3) = (D.lit
  (Value.int IntKind.i64 n_5))) ∧ (∀ (N_28 : Nat), ((N_2 ≤ N_28) → (ACalls prog 147 [Sh.bool]
  [PV.dg 9 x0] N_28 (fun (b_6 : Bool) => (fun (N_29 : Nat) => ((N_28 ≤ N_29) → (Br b_6 (∃ (s_6
  : ByteArray), (((D.cell x0 1) = (D.lit (Value.string s_6))) ∧ (Br ((ByteArray.toList s_6) ==
  (ByteArray.toList (bytes []))) (∃ (s_7 : ByteArray), (((D.cell x0 2) = (D.lit (Value.string
  s_7))) ∧ (Br ((ByteArray.toList s_7) == (ByteArray.toList (bytes []))) (∃ (n_6 : Int), (((D.cell
  x0 3) = (D.lit (Value.int IntKind.i64 n_6))) ∧ (Br (n_6 == n_5) (∀ (N_30 : Nat), ((N_29 ≤ N_30)
  → (ACalls prog 126 [Sh.bool] [PV.dg 2 (D.sub x0 4 2), PV.dg 2 (D.ag [(D.lit (Value.int IntKind.i64
  (0 : Int))), (D.sl Option.none 2 [] 0)])] N_30 (fun (b_7 : Bool) => (fun (N_31 : Nat) => ((N_30
  ≤ N_31) → (Br b_7 (∀ (N_32 : Nat), ((N_31 ≤ N_32) → (ACalls prog 126 [Sh.bool] [PV.dg 2 (D.sub
  x0 6 2), PV.dg 2 (D.ag [(D.lit (Value.int IntKind.i64 (0 : Int))), (D.sl Option.none 2 [] 0)])]
  N_32 (fun (b_8 : Bool) => (fun (N_33 : Nat) => ((N_32 ≤ N_33) → (∀ (N_34 : Nat), ((N_33 ≤ N_34)
  → (Q b_8 N_34))))))))) (∀ (N_35 : Nat), ((N_31 ≤ N_35) → (Q false N_35)))))))))) (∀ (N_36 :
  Nat), ((N_29 ≤ N_36) → (Q false N_36)))))) (∀ (N_37 : Nat), ((N_29 ≤ N_37) → (Q false N_37))))))
  (∀ (N_38 : Nat), ((N_29 ≤ N_38) → (Q false N_38)))))) (∀ (N_39 : Nat), ((N_29 ≤ N_39) → (Q false
  N_39)))))))))))) (Br (n_2 == (3 : Int)) (∃ (n_7 : Int), (((D.cell x0 3) = (D.lit (Value.int
  IntKind.i64 n_7))) ∧ (∀ (N_40 : Nat), ((N_2 ≤ N_40) → (ACalls prog 147 [Sh.bool] [PV.dg 9 x0]
  N_40 (fun (b_9 : Bool) => (fun (N_41 : Nat) => ((N_40 ≤ N_41) → (Br b_9 (∃ (s_8 : ByteArray),
  (((D.cell x0 1) = (D.lit (Value.string s_8))) ∧ (Br ((ByteArray.toList s_8) == (ByteArray.toList
  (bytes []))) (∃ (s_9 : ByteArray), (((D.cell x0 2) = (D.lit (Value.string s_9))) ∧ (Br ((ByteArray.toList
  s_9) == (ByteArray.toList (bytes []))) (∃ (n_8 : Int), (((D.cell x0 3) = (D.lit (Value.int IntKind.i64
  n_8))) ∧ (Br (n_8 == n_7) (∀ (N_42 : Nat), ((N_41 ≤ N_42) → (ACalls prog 126 [Sh.bool] [PV.dg
  2 (D.sub x0 4 2), PV.dg 2 (D.ag [(D.lit (Value.int IntKind.i64 (0 : Int))), (D.sl Option.none
  2 [] 0)])] N_42 (fun (b_10 : Bool) => (fun (N_43 : Nat) => ((N_42 ≤ N_43) → (Br b_10 (∀ (N_44
  : Nat), ((N_43 ≤ N_44) → (ACalls prog 126 [Sh.bool] [PV.dg 2 (D.sub x0 6 2), PV.dg 2 (D.ag [(D.lit
  (Value.int IntKind.i64 (0 : Int))), (D.sl Option.none 2 [] 0)])] N_44 (fun (b_11 : Bool) =>
  (fun (N_45 : Nat) => ((N_44 ≤ N_45) → (∀ (N_46 : Nat), ((N_45 ≤ N_46) → (Q b_11 N_46)))))))))
  (∀ (N_47 : Nat), ((N_43 ≤ N_47) → (Q false N_47)))))))))) (∀ (N_48 : Nat), ((N_41 ≤ N_48) →
  (Q false N_48)))))) (∀ (N_49 : Nat), ((N_41 ≤ N_49) → (Q false N_49)))))) (∀ (N_50 : Nat), ((N_41
  ≤ N_50) → (Q false N_50)))))) (∀ (N_51 : Nat), ((N_41 ≤ N_51) → (Q false N_51)))))))))))) (Br
  (n_2 == (4 : Int)) (∃ (s_10 : ByteArray), (((D.cell x0 1) = (D.lit (Value.string s_10))) ∧ (∀
  (N_52 : Nat), ((N_2 ≤ N_52) → (ACalls prog 147 [Sh.bool] [PV.dg 9 x0] N_52 (fun (b_12 : Bool)
  => (fun (N_53 : Nat) => ((N_52 ≤ N_53) → (Br b_12 (∃ (s_11 : ByteArray), (((D.cell x0 1) = (D.lit
  (Value.string s_11))) ∧ (Br ((ByteArray.toList s_11) == (ByteArray.toList s_10)) (∃ (s_12 :
  ByteArray), (((D.cell x0 2) = (D.lit (Value.string s_12))) ∧ (Br ((ByteArray.toList s_12) ==
  (ByteArray.toList (bytes []))) (∃ (n_9 : Int), (((D.cell x0 3) = (D.lit (Value.int IntKind.i64
  n_9))) ∧ (Br (n_9 == (0 : Int)) (∀ (N_54 : Nat), ((N_53 ≤ N_54) → (ACalls prog 126 [Sh.bool]
  [PV.dg 2 (D.sub x0 4 2), PV.dg 2 (D.ag [(D.lit (Value.int IntKind.i64 (0 : Int))), (D.sl Option.none
  2 [] 0)])] N_54 (fun (b_13 : Bool) => (fun (N_55 : Nat) => ((N_54 ≤ N_55) → (Br b_13 (∀ (N_56
  : Nat), ((N_55 ≤ N_56) → (ACalls prog 126 [Sh.bool] [PV.dg 2 (D.sub x0 6 2), PV.dg 2 (D.ag [(D.lit
  (Value.int IntKind.i64 (0 : Int))), (D.sl Option.none 2 [] 0)])] N_56 (fun (b_14 : Bool) =>
  (fun (N_57 : Nat) => ((N_56 ≤ N_57) → (∀ (N_58 : Nat), ((N_57 ≤ N_58) → (Q b_14 N_58)))))))))
  (∀ (N_59 : Nat), ((N_55 ≤ N_59) → (Q false N_59)))))))))) (∀ (N_60 : Nat), ((N_53 ≤ N_60) →
  (Q false N_60)))))) (∀ (N_61 : Nat), ((N_53 ≤ N_61) → (Q false N_61)))))) (∀ (N_62 : Nat), ((N_53
  ≤ N_62) → (Q false N_62)))))) (∀ (N_63 : Nat), ((N_53 ≤ N_63) → (Q false N_63)))))))))))) (Br
  (n_2 == (6 : Int)) (∃ (s_13 : ByteArray), (((D.cell x0 1) = (D.lit (Value.string s_13))) ∧ (∀
  (N_64 : Nat), ((N_2 ≤ N_64) → (ACalls prog 147 [Sh.bool] [PV.dg 9 x0] N_64 (fun (b_15 : Bool)
  => (fun (N_65 : Nat) => ((N_64 ≤ N_65) → (Br b_15 (∃ (s_14 : ByteArray), (((D.cell x0 1) = (D.lit
  (Value.string s_14))) ∧ (Br ((ByteArray.toList s_14) == (ByteArray.toList s_13)) (∃ (s_15 :
  ByteArray), (((D.cell x0 2) = (D.lit (Value.string s_15))) ∧ (Br ((ByteArray.toList s_15) ==
  (ByteArray.toList (bytes []))) (∃ (n_10 : Int), (((D.cell x0 3) = (D.lit (Value.int IntKind.i64
  n_10))) ∧ (Br (n_10 == (0 : Int)) (∀ (N_66 : Nat), ((N_65 ≤ N_66) → (ACalls prog 126 [Sh.bool]
  [PV.dg 2 (D.sub x0 4 2), PV.dg 2 (D.ag [(D.cell (D.sub x0 4 2) 0), (D.cell (D.sub x0 4 2) 1)])]
  N_66 (fun (b_16 : Bool) => (fun (N_67 : Nat) => ((N_66 ≤ N_67) → (Br b_16 (∀ (N_68 : Nat), ((N_67
  ≤ N_68) → (ACalls prog 126 [Sh.bool] [PV.dg 2 (D.sub x0 6 2), PV.dg 2 (D.ag [(D.lit (Value.int
  IntKind.i64 (0 : Int))), (D.sl Option.none 2 [] 0)])] N_68 (fun (b_17 : Bool) => (fun (N_69
  : Nat) => ((N_68 ≤ N_69) → (∀ (N_70 : Nat), ((N_69 ≤ N_70) → (Q b_17 N_70))))))))) (∀ (N_71
  : Nat), ((N_67 ≤ N_71) → (Q false N_71)))))))))) (∀ (N_72 : Nat), ((N_65 ≤ N_72) → (Q false
  N_72)))))) (∀ (N_73 : Nat), ((N_65 ≤ N_73) → (Q false N_73)))))) (∀ (N_74 : Nat), ((N_65 ≤ N_74)
  → (Q false N_74)))))) (∀ (N_75 : Nat), ((N_65 ≤ N_75) → (Q false N_75)))))))))))) (Br (n_2 ==
  (9 : Int)) (∃ (s_16 : ByteArray), (((D.cell x0 1) = (D.lit (Value.string s_16))) ∧ (∃ (s_17
  : ByteArray), (((D.cell x0 2) = (D.lit (Value.string s_17))) ∧ (∀ (N_76 : Nat), ((N_2 ≤ N_76)
  → (ACalls prog 147 [Sh.bool] [PV.dg 9 x0] N_76 (fun (b_18 : Bool) => (fun (N_77 : Nat) => ((N_76
  ≤ N_77) → (Br b_18 (∃ (s_18 : ByteArray), (((D.cell x0 1) = (D.lit (Value.string s_18))) ∧ (Br
  ((ByteArray.toList s_18) == (ByteArray.toList s_16)) (∃ (s_19 : ByteArray), (((D.cell x0 2)
  = (D.lit (Value.string s_19))) ∧ (Br ((ByteArray.toList s_19) == (ByteArray.toList s_17)) (∃
  (n_11 : Int), (((D.cell x0 3) = (D.lit (Value.int IntKind.i64 n_11))) ∧ (Br (n_11 == (0 : Int))
  (∀ (N_78 : Nat), ((N_77 ≤ N_78) → (ACalls prog 126 [Sh.bool] [PV.dg 2 (D.sub x0 4 2), PV.dg
  2 (D.ag [(D.cell (D.sub x0 4 2) 0), (D.cell (D.sub x0 4 2) 1)])] N_78 (fun (b_19 : Bool) =>
  (fun (N_79 : Nat) => ((N_78 ≤ N_79) → (Br b_19 (∀ (N_80 : Nat), ((N_79 ≤ N_80) → (ACalls prog
  126 [Sh.bool] [PV.dg 2 (D.sub x0 6 2), PV.dg 2 (D.ag [(D.cell (D.sub x0 6 2) 0), (D.cell (D.sub
  x0 6 2) 1)])] N_80 (fun (b_20 : Bool) => (fun (N_81 : Nat) => ((N_80 ≤ N_81) → (∀ (N_82 : Nat),
  ((N_81 ≤ N_82) → (Q b_20 N_82))))))))) (∀ (N_83 : Nat), ((N_79 ≤ N_83) → (Q false N_83))))))))))
  (∀ (N_84 : Nat), ((N_77 ≤ N_84) → (Q false N_84)))))) (∀ (N_85 : Nat), ((N_77 ≤ N_85) → (Q false
  N_85)))))) (∀ (N_86 : Nat), ((N_77 ≤ N_86) → (Q false N_86)))))) (∀ (N_87 : Nat), ((N_77 ≤ N_87)
  → (Q false N_87)))))))))))))) (∀ (N_88 : Nat), ((N_2 ≤ N_88) → (ACalls prog 147 [Sh.bool] [PV.dg
  9 x0] N_88 (fun (b_21 : Bool) => (fun (N_89 : Nat) => ((N_88 ≤ N_89) → (Br b_21 (∃ (s_20 : ByteArray),
  (((D.cell x0 1) = (D.lit (Value.string s_20))) ∧ (Br ((ByteArray.toList s_20) == (ByteArray.toList
  (bytes []))) (∃ (s_21 : ByteArray), (((D.cell x0 2) = (D.lit (Value.string s_21))) ∧ (Br ((ByteArray.toList
  s_21) == (ByteArray.toList (bytes []))) (∃ (n_12 : Int), (((D.cell x0 3) = (D.lit (Value.int
  IntKind.i64 n_12))) ∧ (Br (n_12 == (0 : Int)) (∀ (N_90 : Nat), ((N_89 ≤ N_90) → (ACalls prog
  126 [Sh.bool] [PV.dg 2 (D.sub x0 4 2), PV.dg 2 (D.ag [(D.lit (Value.int IntKind.i64 (0 : Int))),
  (D.sl Option.none 2 [] 0)])] N_90 (fun (b_22 : Bool) => (fun (N_91 : Nat) => ((N_90 ≤ N_91)
  → (Br b_22 (∀ (N_92 : Nat), ((N_91 ≤ N_92) → (ACalls prog 126 [Sh.bool] [PV.dg 2 (D.sub x0 6
  2), PV.dg 2 (D.ag [(D.lit (Value.int IntKind.i64 (0 : Int))), (D.sl Option.none 2 [] 0)])] N_92
  (fun (b_23 : Bool) => (fun (N_93 : Nat) => ((N_92 ≤ N_93) → (∀ (N_94 : Nat), ((N_93 ≤ N_94)
  → (Q b_23 N_94))))))))) (∀ (N_95 : Nat), ((N_91 ≤ N_95) → (Q false N_95)))))))))) (∀ (N_96 :
  Nat), ((N_89 ≤ N_96) → (Q false N_96)))))) (∀ (N_97 : Nat), ((N_89 ≤ N_97) → (Q false N_97))))))
  (∀ (N_98 : Nat), ((N_89 ≤ N_98) → (Q false N_98)))))) (∀ (N_99 : Nat), ((N_89 ≤ N_99) → (Q false
  N_99)))))))))))))))))))))))))))))))))) : ACalls prog 118 [.bool] [PV.dg 9 x0] N Q :=
  entryE (sh := sh) (H := H_impl_isForm) (fuel := 400) (by kernel_rfl) (by kernel_rfl) (by kernel_rfl) h
theorem w_impl_IsTerm (N : Nat) (x0 : D) (Q : QT [.bool]) (h :
((Bel N x0) →
(∀ (N_1 : Nat),
((N ≤ N_1) →
(ACalls prog 58 [Sh.bool] [PV.dg 9 x0, PV.fn 118 []] N_1 (fun (b : Bool) => (fun (N_2 : Nat) => 
((N_1 ≤ N_2) →
(∀ (N_3 : Nat),
((N_2 ≤ N_3) →
(Q b N_3))))))))))) : ACalls prog 80 [.bool] [PV.dg 9 x0] N Q :=
  entryE (sh := sh) (H := H_impl_IsTerm) (fuel := 400) (by kernel_rfl) (by kernel_rfl) (by kernel_rfl) h
theorem w_impl_LevelsOk_1 (N : Nat) (x0 : D) (n1 : Int) (Q : QT [.bool]) (h :
((Bel N x0) →
(∀ (N_1 : Nat),
((N ≤ N_1) →
(ACalls prog 60 [Sh.bool] [PV.int .i64 n1, PV.int .i64 (0 : Int), PV.int .i64 (2 : Int)] N_1 (fun (b : Bool) => (fun (N_2 : Nat) => 
((N_1 ≤ N_2) →
(∀ (N_3 : Nat),
((N_2 ≤ N_3) →
(Q b N_3))))))))))) : ACalls prog 82 [.bool] [PV.dg 9 x0, PV.int .i64 n1] N Q :=
  entryE (sh := sh) (H := H_impl_LevelsOk_1) (fuel := 400) (by kernel_rfl) (by kernel_rfl) (by kernel_rfl) h
theorem w_impl_partLevel (N : Nat) (x0 : D) (n1 : Int) (Q : QT [.int .i64]) (h :
((Bel N x0) →
(∃ (n : Int),
(((D.cell x0 0) = (D.lit (Value.int IntKind.i64 n))) ∧
(Br (n == (10 : Int))
(∀ (N_1 : Nat),
((N ≤ N_1) →
(Q (IntKind.i64.wrap (n1 + (1 : Int) : Int)) N_1)))
(Br (n == (11 : Int))
(∀ (N_2 : Nat),
((N ≤ N_2) →
(Q (IntKind.i64.wrap (n1 - (1 : Int) : Int)) N_2)))
(∀ (N_3 : Nat),
((N ≤ N_3) →
(Q n1 N_3))))))))) : ACalls prog 119 [.int .i64] [PV.dg 9 x0, PV.int .i64 n1] N Q :=
  entryE (sh := sh) (H := H_impl_partLevel) (fuel := 400) (by kernel_rfl) (by kernel_rfl) (by kernel_rfl) h
theorem w_impl_LevelsOk (N : Nat) (x0 : D) (n1 : Int) (Q : QT [.bool]) (h :
((Bel N x0) →
(∀ (N_1 : Nat),
((N ≤ N_1) →
(ACalls prog 80 [Sh.bool] [PV.dg 9 x0] N_1 (fun (b : Bool) => (fun (N_2 : Nat) => 
((N_1 ≤ N_2) →
(Br b
(∀ (N_3 : Nat),
((N_2 ≤ N_3) →
(ACalls prog 81 [Sh.bool] [PV.dg 9 x0, PV.int .i64 n1, PV.fn 82 []] N_3 (fun (b_1 : Bool) => (fun (N_4 : Nat) => 
((N_3 ≤ N_4) →
(∀ (N_5 : Nat),
((N_4 ≤ N_5) →
(Q b_1 N_5)))))))))
(∀ (N_6 : Nat),
((N_2 ≤ N_6) →
(Q false N_6)))))))))))) : ACalls prog 43 [.bool] [PV.dg 9 x0, PV.int .i64 n1] N Q :=
  entryE (sh := sh) (H := H_impl_LevelsOk) (fuel := 400) (by kernel_rfl) (by kernel_rfl) (by kernel_rfl) h
theorem w_impl_counting (N : Nat) (a0 : Option Addr) (e0 : List D) (c0 : Nat) (s1 : ByteArray) (Q : QT [.int .i64]) (h :
((Bel N (D.sl a0 4 e0 c0)) →
(L_impl_counting_2 Q N a0 e0 c0 s1 (IntKind.i64.wrap ((((List.length e0) : Nat) : Int) - (1 : Int) : Int)) N))) : ACalls prog 121 [.int .i64] [PV.sv a0 4 e0 c0, PV.str s1] N Q :=
  entryE (sh := sh) (H := H_impl_counting) (fuel := 400) (by kernel_rfl) (by kernel_rfl) (by kernel_rfl) h
theorem w_impl_Type_own (N : Nat) (x0 : D) (Q : QT [.ag 2]) (h :
((Bel N x0) →
(∃ (n : Int),
(((D.cell x0 0) = (D.lit (Value.int IntKind.i64 n))) ∧
(∃ (a : Option Addr),
(∃ (es : List D),
(∃ (c : Nat),
(((D.cell x0 1) = (D.sl a 2 es c)) ∧
(L_impl_Type_own_3 Q N a es c (((List.length es) : Nat) : Int) (0 : Int) (0 : Int) Option.none [] 0 n Option.none [] 0 N))))))))) : ACalls prog 122 [.ag 2] [PV.dg 2 x0] N Q :=
  entryE (sh := sh) (H := H_impl_Type_own) (fuel := 400) (by kernel_rfl) (by kernel_rfl) (by kernel_rfl) h
theorem w_impl_tyInt (N : Nat) (Q : QT [.ag 2]) (h :
(∀ (N_1 : Nat),
((N ≤ N_1) →
(Q (D.ag [(D.lit (Value.int IntKind.i64 (1 : Int))), (D.sl Option.none 2 [] 0)]) N_1)))) : ACalls prog 123 [.ag 2] [] N Q :=
  entryE (sh := sh) (H := H_impl_tyInt) (fuel := 400) (by kernel_rfl) (by kernel_rfl) (by kernel_rfl) h
theorem w_impl_tyBool (N : Nat) (Q : QT [.ag 2]) (h :
(∀ (N_1 : Nat),
((N ≤ N_1) →
(Q (D.ag [(D.lit (Value.int IntKind.i64 (2 : Int))), (D.sl Option.none 2 [] 0)]) N_1)))) : ACalls prog 124 [.ag 2] [] N Q :=
  entryE (sh := sh) (H := H_impl_tyBool) (fuel := 400) (by kernel_rfl) (by kernel_rfl) (by kernel_rfl) h
theorem w_impl_opType (N : Nat) (s0 : ByteArray) (a1 : Option Addr) (e1 : List D) (c1 : Nat) (Q : QT [.ag 2]) (h :
((Bel N (D.sl a1 2 e1 c1)) →
(∀ (N_1 : Nat),
((N ≤ N_1) →
(ACalls prog 123 [(Sh.ag 2)] [] N_1 (fun (x : D) => (fun (N_2 : Nat) => 
((N_1 ≤ N_2) →
((Bel N_2 x) →
(∀ (N_3 : Nat),
((N_2 ≤ N_3) →
(ACalls prog 123 [(Sh.ag 2)] [] N_3 (fun (x_1 : D) => (fun (N_4 : Nat) => 
((N_3 ≤ N_4) →
((Bel N_4 x_1) →
(Br ((ByteArray.toList s0) == (ByteArray.toList (bytes [61])))
(∀ (N_5 : Nat),
((N_4 ≤ N_5) →
(ACalls prog 124 [(Sh.ag 2)] [] N_5 (fun (x_2 : D) => (fun (N_6 : Nat) => 
((N_5 ≤ N_6) →
((Bel N_6 x_2) →
(L_impl_opType_11 Q N a1 e1 c1 (((List.length e1) : Nat) : Int) (0 : Int) (0 : Int) Option.none [] 0 x x_2 N_6))))))))
(Br ((ByteArray.toList s0) == (ByteArray.toList (bytes [60])))
(∀ (N_7 : Nat),
((N_4 ≤ N_7) →
(ACalls prog 124 [(Sh.ag 2)] [] N_7 (fun (x_3 : D) => (fun (N_8 : Nat) => 
((N_7 ≤ N_8) →
((Bel N_8 x_3) →
(L_impl_opType_11 Q N a1 e1 c1 (((List.length e1) : Nat) : Int) (0 : Int) (0 : Int) Option.none [] 0 x x_3 N_8))))))))
(Br ((ByteArray.toList s0) == (ByteArray.toList (bytes [38])))
(∀ (N_9 : Nat),
((N_4 ≤ N_9) →
(ACalls prog 124 [(Sh.ag 2)] [] N_9 (fun (x_4 : D) => (fun (N_10 : Nat) => 
((N_9 ≤ N_10) →
((Bel N_10 x_4) →
(∀ (N_11 : Nat),
((N_10 ≤ N_11) →
(ACalls prog 124 [(Sh.ag 2)] [] N_11 (fun (x_5 : D) => (fun (N_12 : Nat) => 
((N_11 ≤ N_12) →
((Bel N_12 x_5) →
(L_impl_opType_11 Q N a1 e1 c1 (((List.length e1) : Nat) : Int) (0 : Int) (0 : Int) Option.none [] 0 x_4 x_5 N_12)))))))))))))))
(Br ((ByteArray.toList s0) == (ByteArray.toList (bytes [124])))
(∀ (N_13 : Nat),
((N_4 ≤ N_13) →
(ACalls prog 124 [(Sh.ag 2)] [] N_13 (fun (x_6 : D) => (fun (N_14 : Nat) => 
((N_13 ≤ N_14) →
((Bel N_14 x_6) →
(∀ (N_15 : Nat),
((N_14 ≤ N_15) →
(ACalls prog 124 [(Sh.ag 2)] [] N_15 (fun (x_7 : D) => (fun (N_16 : Nat) => 
((N_15 ≤ N_16) →
((Bel N_16 x_7) →
(L_impl_opType_11 Q N a1 e1 c1 (((List.length e1) : Nat) : Int) (0 : Int) (0 : Int) Option.none [] 0 x_6 x_7 N_16)))))))))))))))
(Br ((ByteArray.toList s0) == (ByteArray.toList (bytes [33])))
(∀ (N_17 : Nat),
((N_4 ≤ N_17) →
(ACalls prog 124 [(Sh.ag 2)] [] N_17 (fun (x_8 : D) => (fun (N_18 : Nat) => 
((N_17 ≤ N_18) →
((Bel N_18 x_8) →
(∀ (N_19 : Nat),
((N_18 ≤ N_19) →
(ACalls prog 124 [(Sh.ag 2)] [] N_19 (fun (x_9 : D) => (fun (N_20 : Nat) => 
((N_19 ≤ N_20) →
((Bel N_20 x_9) →
(L_impl_opType_11 Q N a1 e1 c1 (((List.length e1) : Nat) : Int) (0 : Int) (0 : Int) Option.none [] 0 x_8 x_9 N_20)))))))))))))))
(L_impl_opType_11 Q N a1 e1 c1 (((List.length e1) : Nat) : Int) (0 : Int) (0 : Int) Option.none [] 0 x x_1 N_4)))))))))))))))))))))) : ACalls prog 125 [.ag 2] [PV.str s0, PV.sv a1 2 e1 c1] N Q :=
  entryE (sh := sh) (H := H_impl_opType) (fuel := 400) (by kernel_rfl) (by kernel_rfl) (by kernel_rfl) h
theorem w_slices_Clone_Typing (N : Nat) (a0 : Option Addr) (e0 : List D) (c0 : Nat) (Q : QT [.row 70 4]) (h :
((Bel N (D.sl a0 4 e0 c0)) →
(Br (Option.isNone a0)
(∀ (N_1 : Nat),
((N ≤ N_1) →
(Q [] 0 N_1)))
(((0 = 0) ∧
(0 = 0)) ∧
((apBound [] e0 56) ∧
(∀ (c : Nat),
((((List.length ([] ++ e0)) = (List.length ([] ++ e0))) ∧
(c = c)) ∧
(∀ (N_2 : Nat),
((N ≤ N_2) →
(Q ([] ++ e0) c N_2)))))))))) : ACalls prog 149 [.row 70 4] [PV.sv a0 4 e0 c0] N Q :=
  entryE (sh := sh) (H := H_slices_Clone_Typing) (fuel := 400) (by kernel_rfl) (by kernel_rfl) (by kernel_rfl) h
theorem w_impl_with (N : Nat) (a0 : Option Addr) (e0 : List D) (c0 : Nat) (a1 : Option Addr) (e1 : List D) (c1 : Nat) (Q : QT [.sl 4]) (h :
((Bel N (D.sl a0 4 e0 c0)) →
((Bel N (D.sl a1 4 e1 c1)) →
(∀ (N_1 : Nat),
((N ≤ N_1) →
(ACalls prog 149 [(Sh.row (OfNat.ofNat 70) 4)] [PV.sv a0 4 e0 c0] N_1 (fun (es : List D) => (fun (c : Nat) => (fun (N_2 : Nat) => 
((N_1 ≤ N_2) →
((Bel N_2 (D.ag es)) →
((((List.length es) = (List.length es)) ∧
(c = c)) ∧
((apBound es e1 56) ∧
(∀ (c_1 : Nat),
((((List.length (es ++ e1)) = (List.length (es ++ e1))) ∧
(c_1 = c_1)) ∧
((((List.length (es ++ e1)) = (List.length (es ++ e1))) ∧
(c_1 = c_1)) ∧
(∀ (a : Option Addr),
(∀ (N_3 : Nat),
((N_2 ≤ N_3) →
((Fresh N N_3 a [(D.ag (es ++ e1))]) →
(∀ (N_4 : Nat),
((N_3 ≤ N_4) →
(Q a (es ++ e1) c_1 N_4))))))))))))))))))))))) : ACalls prog 127 [.sl 4] [PV.sv a0 4 e0 c0, PV.sv a1 4 e1 c1] N Q :=
  entryE (sh := sh) (H := H_impl_with) (fuel := 400) (by kernel_rfl) (by kernel_rfl) (by kernel_rfl) h
theorem w_impl_tyFun (N : Nat) (x0 : D) (x1 : D) (Q : QT [.ag 2]) (h :
((Bel N x0) →
((Bel N x1) →
(∀ (N_1 : Nat),
((N ≤ N_1) →
(ACalls prog 122 [(Sh.ag 2)] [PV.dg 2 x0] N_1 (fun (x : D) => (fun (N_2 : Nat) => 
((N_1 ≤ N_2) →
((Bel N_2 x) →
(∀ (N_3 : Nat),
((N_2 ≤ N_3) →
(ACalls prog 122 [(Sh.ag 2)] [PV.dg 2 x1] N_3 (fun (x_1 : D) => (fun (N_4 : Nat) => 
((N_3 ≤ N_4) →
((Bel N_4 x_1) →
(((2 = (List.length [x, x_1])) ∧
(2 = 2)) ∧
(((2 = (List.length [x, x_1])) ∧
(2 = 2)) ∧
(((2 = (List.length [x, x_1])) ∧
(2 = 2)) ∧
(∀ (a : Option Addr),
(∀ (N_5 : Nat),
((N_4 ≤ N_5) →
((Fresh N N_5 a [(D.ag [x, x_1])]) →
(∀ (N_6 : Nat),
((N_5 ≤ N_6) →
(Q (D.ag [(D.lit (Value.int IntKind.i64 (3 : Int))), (D.sl a 2 [x, x_1] 2)]) N_6))))))))))))))))))))))))))) : ACalls prog 128 [.ag 2] [PV.dg 2 x0, PV.dg 2 x1] N Q :=
  entryE (sh := sh) (H := H_impl_tyFun) (fuel := 400) (by kernel_rfl) (by kernel_rfl) (by kernel_rfl) h
theorem w_impl_tyCode (N : Nat) (x0 : D) (Q : QT [.ag 2]) (h :
((Bel N x0) →
(∀ (N_1 : Nat),
((N ≤ N_1) →
(ACalls prog 122 [(Sh.ag 2)] [PV.dg 2 x0] N_1 (fun (x : D) => (fun (N_2 : Nat) => 
((N_1 ≤ N_2) →
((Bel N_2 x) →
(((1 = (List.length [x])) ∧
(1 = 1)) ∧
(((1 = (List.length [x])) ∧
(1 = 1)) ∧
(((1 = (List.length [x])) ∧
(1 = 1)) ∧
(∀ (a : Option Addr),
(∀ (N_3 : Nat),
((N_2 ≤ N_3) →
((Fresh N N_3 a [(D.ag [x])]) →
(∀ (N_4 : Nat),
((N_3 ≤ N_4) →
(Q (D.ag [(D.lit (Value.int IntKind.i64 (4 : Int))), (D.sl a 2 [x] 1)]) N_4))))))))))))))))))) : ACalls prog 150 [.ag 2] [PV.dg 2 x0] N Q :=
  entryE (sh := sh) (H := H_impl_tyCode) (fuel := 400) (by kernel_rfl) (by kernel_rfl) (by kernel_rfl) h
theorem w_impl_codeOf (N : Nat) (x0 : D) (Q : QT [.ag 2]) (h :
((Bel N x0) →
(∃ (n : Int),
(((D.cell x0 0) = (D.lit (Value.int IntKind.i64 n))) ∧
(Br (bne n (4 : Int))
(∀ (N_1 : Nat),
((N ≤ N_1) →
(Q (D.ag [(D.lit (Value.int IntKind.i64 (0 : Int))), (D.sl Option.none 2 [] 0)]) N_1)))
(∃ (a : Option Addr),
(∃ (es : List D),
(∃ (c : Nat),
(((D.cell x0 1) = (D.sl a 2 es c)) ∧
((((0 : Int) ≤ (0 : Int)) ∧
((0 : Int) < (((List.length es) : Nat) : Int))) ∧
(∀ (N_2 : Nat),
((N ≤ N_2) →
(ACalls prog 122 [(Sh.ag 2)] [PV.dg 2 (List.getD es 0 Inhabited.default)] N_2 (fun (x : D) => (fun (N_3 : Nat) => 
((N_2 ≤ N_3) →
((Bel N_3 x) →
(∀ (N_4 : Nat),
((N_3 ≤ N_4) →
(Q x N_4)))))))))))))))))))) : ACalls prog 151 [.ag 2] [PV.dg 2 x0] N Q :=
  entryE (sh := sh) (H := H_impl_codeOf) (fuel := 400) (by kernel_rfl) (by kernel_rfl) (by kernel_rfl) h
theorem w_impl_IsBase (N : Nat) (x0 : D) (Q : QT [.bool]) (h :
((Bel N x0) →
(∃ (n : Int),
(((D.cell x0 0) = (D.lit (Value.int IntKind.i64 n))) ∧
(∀ (N_1 : Nat),
((N ≤ N_1) →
(ACalls prog 60 [Sh.bool] [PV.int .i64 n, PV.int .i64 (1 : Int), PV.int .i64 (2 : Int)] N_1 (fun (b : Bool) => (fun (N_2 : Nat) => 
((N_1 ≤ N_2) →
(Br b
(∃ (a : Option Addr),
(∃ (es : List D),
(∃ (c : Nat),
(((D.cell x0 1) = (D.sl a 2 es c)) ∧
(∀ (N_3 : Nat),
((N_2 ≤ N_3) →
(Q ((((List.length es) : Nat) : Int) == (0 : Int)) N_3)))))))
(∀ (N_4 : Nat),
((N_2 ≤ N_4) →
(Q false N_4)))))))))))))) : ACalls prog 91 [.bool] [PV.dg 2 x0] N Q :=
  entryE (sh := sh) (H := H_impl_IsBase) (fuel := 400) (by kernel_rfl) (by kernel_rfl) (by kernel_rfl) h
theorem w_impl_SafeCtx (N : Nat) (a0 : Option Addr) (e0 : List D) (c0 : Nat) (n1 : Int) (Q : QT [.sl 4]) (h :
((Bel N (D.sl a0 4 e0 c0)) →
(L_impl_SafeCtx_3 Q N a0 e0 c0 n1 0 0 a0 e0 c0 (((List.length e0) : Nat) : Int) (0 : Int) [] 0 N))) : ACalls prog 152 [.sl 4] [PV.sv a0 4 e0 c0, PV.int .i64 n1] N Q :=
  entryE (sh := sh) (H := H_impl_SafeCtx) (fuel := 400) (by kernel_rfl) (by kernel_rfl) (by kernel_rfl) h
theorem w_impl_stageType (N : Nat) (a0 : Option Addr) (e0 : List D) (c0 : Nat) (x1 : D) (n2 : Int) (Q : QT [.ag 2]) (h :
((Bel N (D.sl a0 4 e0 c0)) →
((Bel N x1) →
(∃ (n : Int),
(((D.cell x1 0) = (D.lit (Value.int IntKind.i64 n))) ∧
(Br (n == (10 : Int))
(∃ (a : Option Addr),
(∃ (es : List D),
(∃ (c : Nat),
(((D.cell x1 8) = (D.sl a 9 es c)) ∧
((((0 : Int) ≤ (0 : Int)) ∧
((0 : Int) < (((List.length es) : Nat) : Int))) ∧
(∀ (N_1 : Nat),
((N ≤ N_1) →
(ACalls prog 44 [(Sh.ag 2)] [PV.sv a0 4 e0 c0, PV.dg 9 (List.getD es 0 Inhabited.default), PV.int .i64 (IntKind.i64.wrap (n2 + (1 : Int) : Int))] N_1 (fun (x : D) => (fun (N_2 : Nat) => 
((N_1 ≤ N_2) →
((Bel N_2 x) →
(∃ (n_1 : Int),
(((D.cell x 0) = (D.lit (Value.int IntKind.i64 n_1))) ∧
(Br (bne n_1 (0 : Int))
(∀ (N_3 : Nat),
((N_2 ≤ N_3) →
(ACalls prog 150 [(Sh.ag 2)] [PV.dg 2 x] N_3 (fun (x_1 : D) => (fun (N_4 : Nat) => 
((N_3 ≤ N_4) →
((Bel N_4 x_1) →
(∀ (N_5 : Nat),
((N_4 ≤ N_5) →
(Q x_1 N_5))))))))))
(∀ (N_6 : Nat),
((N_2 ≤ N_6) →
(Q (D.ag [(D.lit (Value.int IntKind.i64 (0 : Int))), (D.sl Option.none 2 [] 0)]) N_6))))))))))))))))))
(Br (n == (11 : Int))
(∃ (a_1 : Option Addr),
(∃ (es_1 : List D),
(∃ (c_1 : Nat),
(((D.cell x1 8) = (D.sl a_1 9 es_1 c_1)) ∧
((((0 : Int) ≤ (0 : Int)) ∧
((0 : Int) < (((List.length es_1) : Nat) : Int))) ∧
(∀ (N_7 : Nat),
((N ≤ N_7) →
(ACalls prog 44 [(Sh.ag 2)] [PV.sv a0 4 e0 c0, PV.dg 9 (List.getD es_1 0 Inhabited.default), PV.int .i64 (IntKind.i64.wrap (n2 - (1 : Int) : Int))] N_7 (fun (x_2 : D) => (fun (N_8 : Nat) => 
((N_7 ≤ N_8) →
((Bel N_8 x_2) →
(∀ (N_9 : Nat),
((N_8 ≤ N_9) →
(ACalls prog 151 [(Sh.ag 2)] [PV.dg 2 x_2] N_9 (fun (x_3 : D) => (fun (N_10 : Nat) => 
((N_9 ≤ N_10) →
((Bel N_10 x_3) →
(∀ (N_11 : Nat),
((N_10 ≤ N_11) →
(Q x_3 N_11))))))))))))))))))))))
(Br (n == (12 : Int))
(∃ (a_2 : Option Addr),
(∃ (es_2 : List D),
(∃ (c_2 : Nat),
(((D.cell x1 8) = (D.sl a_2 9 es_2 c_2)) ∧
((((0 : Int) ≤ (0 : Int)) ∧
((0 : Int) < (((List.length es_2) : Nat) : Int))) ∧
(∀ (N_12 : Nat),
((N ≤ N_12) →
(ACalls prog 152 [(Sh.sl 4)] [PV.sv a0 4 e0 c0, PV.int .i64 n2] N_12 (fun (a_3 : Option Addr) => (fun (es_3 : List D) => (fun (c_3 : Nat) => (fun (N_13 : Nat) => 
((N_12 ≤ N_13) →
((Bel N_13 (D.sl a_3 4 es_3 c_3)) →
(∀ (N_14 : Nat),
((N_13 ≤ N_14) →
(ACalls prog 44 [(Sh.ag 2)] [PV.sv a_3 4 es_3 c_3, PV.dg 9 (List.getD es_2 0 Inhabited.default), PV.int .i64 n2] N_14 (fun (x_4 : D) => (fun (N_15 : Nat) => 
((N_14 ≤ N_15) →
((Bel N_15 x_4) →
(∀ (N_16 : Nat),
((N_15 ≤ N_16) →
(ACalls prog 151 [(Sh.ag 2)] [PV.dg 2 x_4] N_16 (fun (x_5 : D) => (fun (N_17 : Nat) => 
((N_16 ≤ N_17) →
((Bel N_17 x_5) →
(∀ (N_18 : Nat),
((N_17 ≤ N_18) →
(Q x_5 N_18)))))))))))))))))))))))))))))))
(Br (n == (13 : Int))
(∃ (a_4 : Option Addr),
(∃ (es_4 : List D),
(∃ (c_4 : Nat),
(((D.cell x1 8) = (D.sl a_4 9 es_4 c_4)) ∧
((((0 : Int) ≤ (0 : Int)) ∧
((0 : Int) < (((List.length es_4) : Nat) : Int))) ∧
(∀ (N_19 : Nat),
((N ≤ N_19) →
(ACalls prog 44 [(Sh.ag 2)] [PV.sv a0 4 e0 c0, PV.dg 9 (List.getD es_4 0 Inhabited.default), PV.int .i64 n2] N_19 (fun (x_6 : D) => (fun (N_20 : Nat) => 
((N_19 ≤ N_20) →
((Bel N_20 x_6) →
(∀ (N_21 : Nat),
((N_20 ≤ N_21) →
(ACalls prog 91 [Sh.bool] [PV.dg 2 x_6] N_21 (fun (b : Bool) => (fun (N_22 : Nat) => 
((N_21 ≤ N_22) →
(Br b
(∀ (N_23 : Nat),
((N_22 ≤ N_23) →
(ACalls prog 150 [(Sh.ag 2)] [PV.dg 2 x_6] N_23 (fun (x_7 : D) => (fun (N_24 : Nat) => 
((N_23 ≤ N_24) →
((Bel N_24 x_7) →
(∀ (N_25 : Nat),
((N_24 ≤ N_25) →
(Q x_7 N_25))))))))))
(∀ (N_26 : Nat),
((N_22 ≤ N_26) →
(Q (D.ag [(D.lit (Value.int IntKind.i64 (0 : Int))), (D.sl Option.none 2 [] 0)]) N_26))))))))))))))))))))))
(∀ (N_27 : Nat),
((N ≤ N_27) →
(Q (D.ag [(D.lit (Value.int IntKind.i64 (0 : Int))), (D.sl Option.none 2 [] 0)]) N_27)))))))))))) : ACalls prog 129 [.ag 2] [PV.sv a0 4 e0 c0, PV.dg 9 x1, PV.int .i64 n2] N Q :=
  entryE (sh := sh) (H := H_impl_stageType) (fuel := 400) (by kernel_rfl) (by kernel_rfl) (by kernel_rfl) h
theorem w_impl_formType (N : Nat) (a0 : Option Addr) (e0 : List D) (c0 : Nat) (x1 : D) (n2 : Int) (Q : QT [.ag 2]) (h :
((Bel N (D.sl a0 4 e0 c0)) → ((Bel N x1) → (∃ (n : Int), (((D.cell x1 0) = (D.lit (Value.int
  IntKind.i64 n))) ∧ (Br (n == (1 : Int)) (∃ (s : ByteArray), (((D.cell x1 1) = (D.lit (Value.string
  s))) ∧ (∀ (N_1 : Nat), ((N ≤ N_1) → (ACalls prog 121 [(Sh.int IntKind.i64)] [PV.sv a0 4 e0 c0,
  PV.str s] N_1 (fun (n_1 : Int) => (fun (N_2 : Nat) => ((N_1 ≤ N_2) → (Br (decide ((n_1 ≥ (0
  : Int)))) ((((0 : Int) ≤ n_1) ∧ (n_1 < (((List.length e0) : Nat) : Int))) ∧ (∃ (n_2 : Int),
  (((if (0 = 0) then (D.cell (List.getD e0 (Int.toNat n_1) Inhabited.default) 3) else (D.sub (List.getD
  e0 (Int.toNat n_1) Inhabited.default) 3 0)) = (D.lit (Value.int IntKind.i64 n_2))) ∧ (Br (n_2
  == n2) ((((0 : Int) ≤ n_1) ∧ (n_1 < (((List.length e0) : Nat) : Int))) ∧ (∀ (N_3 : Nat), ((N_2
  ≤ N_3) → (ACalls prog 122 [(Sh.ag 2)] [PV.dg 2 (if (2 = 0) then (D.cell (List.getD e0 (Int.toNat
  n_1) Inhabited.default) 1) else (D.sub (List.getD e0 (Int.toNat n_1) Inhabited.default) 1 2))]
  N_3 (fun (x : D) => (fun (N_4 : Nat) => ((N_3 ≤ N_4) → ((Bel N_4 x) → (∀ (N_5 : Nat), ((N_4
  ≤ N_5) → (Q x N_5))))))))))) (∀ (N_6 : Nat), ((N_2 ≤ N_6) → (Q (D.ag [(D.lit (Value.int IntKind.i64
  (0 : Int))), (D.sl Option.none 2 [] 0)]) N_6))))))) (∀ (N_7 : Nat), ((N_2 ≤ N_7) → (Q (D.ag
  [(D.lit (Value.int IntKind.i64 (0 : Int))), (D.sl Option.none 2 [] 0)]) N_7)))))))))))) (Br
  (n == (2 : Int)) (∀ (N_8 : Nat), ((N ≤ N_8) → (ACalls prog 123 [(Sh.ag 2)] [] N_8 (fun (x_1
  : D) => (fun (N_9 : Nat) => ((N_8 ≤ N_9) → ((Bel N_9 x_1) → (∀ (N_10 : Nat), ((N_9 ≤ N_10) →
  (Q x_1 N_10)))))))))) (Br (n == (3 : Int)) (∀ (N_11 : Nat), ((N ≤ N_11) → (ACalls prog 124 [(Sh.ag
  2)] [] N_11 (fun (x_2 : D) => (fun (N_12 : Nat) => ((N_11 ≤ N_12) → ((Bel N_12 x_2) → (∀ (N_13
  : Nat), ((N_12 ≤ N_13) → (Q x_2 N_13)))))))))) (Br (n == (4 : Int)) (∃ (a : Option Addr), (∃
  (es : List D), (∃ (c : Nat), (((D.cell x1 8) = (D.sl a 9 es c)) ∧ (L_impl_formType_15 Q N 0
  0 (((List.length es) : Nat) : Int) (0 : Int) x1 (0 : Int) Option.none [] 0 a0 e0 c0 n2 [] 0
  N))))) (Br (n == (5 : Int)) (∀ (ad : Addr), ((ApA (Option.some ad) [(D.sl a0 4 e0 c0)]) → (∀
  (ad_1 : Addr), ((ApA (Option.some ad_1) [x1]) → (∀ (ad_2 : Addr), ((ApA (Option.some ad_2) [(D.lit
  (Value.int IntKind.i64 n2))]) → (∀ (N_14 : Nat), ((N ≤ N_14) → ((BelA N_14 [(Option.some ad),
  (Option.some ad_1), (Option.some ad_2)]) → (ACalls prog 120 [(Sh.ag 2)] [PV.int .i64 (1 : Int),
  PV.pd ad 0 (D.sl a0 4 e0 c0), PV.pd ad_1 9 x1, PV.pd ad_2 0 (D.lit (Value.int IntKind.i64 n2))]
  N_14 (fun (x_3 : D) => (fun (N_15 : Nat) => ((N_14 ≤ N_15) → ((Off [(Option.some ad), (Option.some
  ad_1), (Option.some ad_2)] x_3) ∧ ((Bel N_15 x_3) → (∀ (ad_3 : Addr), ((ApA (Option.some ad_3)
  [(D.sl a0 4 e0 c0)]) → (∀ (ad_4 : Addr), ((ApA (Option.some ad_4) [x1]) → (∀ (ad_5 : Addr),
  ((ApA (Option.some ad_5) [(D.lit (Value.int IntKind.i64 n2))]) → (∀ (N_16 : Nat), ((N_15 ≤ N_16)
  → ((BelA N_16 [(Option.some ad_3), (Option.some ad_4), (Option.some ad_5)]) → (ACalls prog 120
  [(Sh.ag 2)] [PV.int .i64 (2 : Int), PV.pd ad_3 0 (D.sl a0 4 e0 c0), PV.pd ad_4 9 x1, PV.pd ad_5
  0 (D.lit (Value.int IntKind.i64 n2))] N_16 (fun (x_4 : D) => (fun (N_17 : Nat) => ((N_16 ≤ N_17)
  → ((Off [(Option.some ad_3), (Option.some ad_4), (Option.some ad_5)] x_4) ∧ ((Bel N_17 x_4)
  → (∀ (ad_6 : Addr), ((ApA (Option.some ad_6) [(D.sl a0 4 e0 c0)]) → (∀ (ad_7 : Addr), ((ApA
  (Option.some ad_7) [x1]) → (∀ (ad_8 : Addr), ((ApA (Option.some ad_8) [(D.lit (Value.int IntKind.i64
  n2))]) → (∀ (N_18 : Nat), ((N_17 ≤ N_18) → ((BelA N_18 [(Option.some ad_6), (Option.some ad_7),
  (Option.some ad_8)]) → (ACalls prog 120 [(Sh.ag 2)] [PV.int .i64 (0 : Int), PV.pd ad_6 0 (D.sl
  a0 4 e0 c0), PV.pd ad_7 9 x1, PV.pd ad_8 0 (D.lit (Value.int IntKind.i64 n2))] N_18 (fun (x_5
  : D) => (fun (N_19 : Nat) => ((N_18 ≤ N_19) → ((Off [(Option.some ad_6), (Option.some ad_7),
  (Option.some ad_8)] x_5) ∧ ((Bel N_19 x_5) → (∀ (N_20 : Nat), ((N_19 ≤ N_20) → (ACalls prog
  124 [(Sh.ag 2)] [] N_20 (fun (x_6 : D) => (fun (N_21 : Nat) => ((N_20 ≤ N_21) → ((Bel N_21 x_6)
  → (∀ (N_22 : Nat), ((N_21 ≤ N_22) → (ACalls prog 126 [Sh.bool] [PV.dg 2 x_5, PV.dg 2 x_6] N_22
  (fun (b : Bool) => (fun (N_23 : Nat) => ((N_22 ≤ N_23) → (Br b (∀ (N_24 : Nat), ((N_23 ≤ N_24)
  → (ACalls prog 126 [Sh.bool] [PV.dg 2 x_3, PV.dg 2 x_4] N_24 (fun (b_1 : Bool) => (fun (N_25
  : Nat) => ((N_24 ≤ N_25) → (Br b_1 (∀ (N_26 : Nat), ((N_25 ≤ N_26) → (Q x_3 N_26))) (∀ (N_27
  : Nat), ((N_25 ≤ N_27) → (Q (D.ag [(D.lit (Value.int IntKind.i64 (0 : Int))), (D.sl Option.none
  2 [] 0)]) N_27)))))))))) (∀ (N_28 : Nat), ((N_23 ≤ N_28) → (Q (D.ag [(D.lit (Value.int IntKind.i64
  (0 : Int))), (D.sl Option.none 2 [] 0)]) N_28))))))))))))))))))))))))))))))))))))))))))))))))))))))))))))))
  (Br (n == (7 : Int)) (∀ (ad_9 : Addr), ((ApA (Option.some ad_9) [(D.sl a0 4 e0 c0)]) → (∀ (ad_10
  : Addr), ((ApA (Option.some ad_10) [x1]) → (∀ (ad_11 : Addr), ((ApA (Option.some ad_11) [(D.lit
  (Value.int IntKind.i64 n2))]) → (∀ (N_29 : Nat), ((N ≤ N_29) → ((BelA N_29 [(Option.some ad_9),
  (Option.some ad_10), (Option.some ad_11)]) → (ACalls prog 120 [(Sh.ag 2)] [PV.int .i64 (0 :
  Int), PV.pd ad_9 0 (D.sl a0 4 e0 c0), PV.pd ad_10 9 x1, PV.pd ad_11 0 (D.lit (Value.int IntKind.i64
  n2))] N_29 (fun (x_7 : D) => (fun (N_30 : Nat) => ((N_29 ≤ N_30) → ((Off [(Option.some ad_9),
  (Option.some ad_10), (Option.some ad_11)] x_7) ∧ ((Bel N_30 x_7) → (∀ (ad_12 : Addr), ((ApA
  (Option.some ad_12) [(D.sl a0 4 e0 c0)]) → (∀ (ad_13 : Addr), ((ApA (Option.some ad_13) [x1])
  → (∀ (ad_14 : Addr), ((ApA (Option.some ad_14) [(D.lit (Value.int IntKind.i64 n2))]) → (∀ (N_31
  : Nat), ((N_30 ≤ N_31) → ((BelA N_31 [(Option.some ad_12), (Option.some ad_13), (Option.some
  ad_14)]) → (ACalls prog 120 [(Sh.ag 2)] [PV.int .i64 (1 : Int), PV.pd ad_12 0 (D.sl a0 4 e0
  c0), PV.pd ad_13 9 x1, PV.pd ad_14 0 (D.lit (Value.int IntKind.i64 n2))] N_31 (fun (x_8 : D)
  => (fun (N_32 : Nat) => ((N_31 ≤ N_32) → ((Off [(Option.some ad_12), (Option.some ad_13), (Option.some
  ad_14)] x_8) ∧ ((Bel N_32 x_8) → (∃ (n_3 : Int), (((D.cell x_7 0) = (D.lit (Value.int IntKind.i64
  n_3))) ∧ (Br (n_3 == (3 : Int)) (∃ (a_1 : Option Addr), (∃ (es_1 : List D), (∃ (c_1 : Nat),
  (((D.cell x_7 1) = (D.sl a_1 2 es_1 c_1)) ∧ ((((0 : Int) ≤ (0 : Int)) ∧ ((0 : Int) < (((List.length
  es_1) : Nat) : Int))) ∧ (∀ (N_33 : Nat), ((N_32 ≤ N_33) → (ACalls prog 126 [Sh.bool] [PV.dg
  2 (List.getD es_1 0 Inhabited.default), PV.dg 2 x_8] N_33 (fun (b_2 : Bool) => (fun (N_34 :
  Nat) => ((N_33 ≤ N_34) → (Br b_2 (∃ (a_2 : Option Addr), (∃ (es_2 : List D), (∃ (c_2 : Nat),
  (((D.cell x_7 1) = (D.sl a_2 2 es_2 c_2)) ∧ ((((0 : Int) ≤ (1 : Int)) ∧ ((1 : Int) < (((List.length
  es_2) : Nat) : Int))) ∧ (∀ (N_35 : Nat), ((N_34 ≤ N_35) → (ACalls prog 122 [(Sh.ag 2)] [PV.dg
  2 (List.getD es_2 1 Inhabited.default)] N_35 (fun (x_9 : D) => (fun (N_36 : Nat) => ((N_35 ≤
  N_36) → ((Bel N_36 x_9) → (∀ (N_37 : Nat), ((N_36 ≤ N_37) → (Q x_9 N_37))))))))))))))) (∀ (N_38
  : Nat), ((N_34 ≤ N_38) → (Q (D.ag [(D.lit (Value.int IntKind.i64 (0 : Int))), (D.sl Option.none
  2 [] 0)]) N_38))))))))))))))) (∀ (N_39 : Nat), ((N_32 ≤ N_39) → (Q (D.ag [(D.lit (Value.int
  IntKind.i64 (0 : Int))), (D.sl Option.none 2 [] 0)]) N_39))))))))))))))))))))))))))))))))))))
  (Br (n == (6 : Int)) (∃ (s_1 : ByteArray), (((D.cell x1 1) = (D.lit (Value.string s_1))) ∧ (∃
  (a_3 : Option Addr), (∃ (es_3 : List D), (∃ (c_3 : Nat), (((D.cell x1 8) = (D.sl a_3 9 es_3
  c_3)) ∧ ((((0 : Int) ≤ (0 : Int)) ∧ ((0 : Int) < (((List.length es_3) : Nat) : Int))) ∧ (((1
  = (List.length [(D.ag [(D.lit (Value.string s_1)), (D.cell (D.sub x1 4 2) 0), (D.cell (D.sub
  x1 4 2) 1), (D.lit (Value.int IntKind.i64 n2))])])) ∧ (1 = 1)) ∧ (∀ (a_4 : Option Addr), ((ApA
  a_4 [(D.ag [(D.lit (Value.string s_1)), (D.cell (D.sub x1 4 2) 0), (D.cell (D.sub x1 4 2) 1),
  (D.lit (Value.int IntKind.i64 n2))])]) → ((Off [a_4] (D.sl a0 4 e0 c0)) → (∀ (N_40 : Nat), ((N
  ≤ N_40) → ((BelA N_40 [a_4]) → (ACalls prog 127 [(Sh.sl 4)] [PV.sv a0 4 e0 c0, PV.sv a_4 4 [(D.ag
  [(D.lit (Value.string s_1)), (D.cell (D.sub x1 4 2) 0), (D.cell (D.sub x1 4 2) 1), (D.lit (Value.int
  IntKind.i64 n2))])] 1] N_40 (fun (a_5 : Option Addr) => (fun (es_4 : List D) => (fun (c_4 :
  Nat) => (fun (N_41 : Nat) => ((N_40 ≤ N_41) → ((Off [a_4] (D.sl a_5 4 es_4 c_4)) ∧ ((Bel N_41
  (D.sl a_5 4 es_4 c_4)) → (∀ (N_42 : Nat), ((N_41 ≤ N_42) → (ACalls prog 44 [(Sh.ag 2)] [PV.sv
  a_5 4 es_4 c_4, PV.dg 9 (List.getD es_3 0 Inhabited.default), PV.int .i64 n2] N_42 (fun (x_10
  : D) => (fun (N_43 : Nat) => ((N_42 ≤ N_43) → ((Bel N_43 x_10) → (∃ (n_4 : Int), (((D.cell x_10
  0) = (D.lit (Value.int IntKind.i64 n_4))) ∧ (Br (n_4 == (0 : Int)) (∀ (N_44 : Nat), ((N_43 ≤
  N_44) → (Q (D.ag [(D.lit (Value.int IntKind.i64 (0 : Int))), (D.sl Option.none 2 [] 0)]) N_44)))
  (∀ (N_45 : Nat), ((N_43 ≤ N_45) → (ACalls prog 128 [(Sh.ag 2)] [PV.dg 2 (D.sub x1 4 2), PV.dg
  2 x_10] N_45 (fun (x_11 : D) => (fun (N_46 : Nat) => ((N_45 ≤ N_46) → ((Bel N_46 x_11) → (∀
  (N_47 : Nat), ((N_46 ≤ N_47) → (Q x_11 N_47)))))))))))))))))))))))))))))))))))))))))) (Br (n
  == (8 : Int)) (∀ (ad_15 : Addr), ((ApA (Option.some ad_15) [(D.sl a0 4 e0 c0)]) → (∀ (ad_16
  : Addr), ((ApA (Option.some ad_16) [x1]) → (∀ (ad_17 : Addr), ((ApA (Option.some ad_17) [(D.lit
  (Value.int IntKind.i64 n2))]) → (∀ (N_48 : Nat), ((N ≤ N_48) → ((BelA N_48 [(Option.some ad_15),
  (Option.some ad_16), (Option.some ad_17)]) → (ACalls prog 120 [(Sh.ag 2)] [PV.int .i64 (0 :
  Int), PV.pd ad_15 0 (D.sl a0 4 e0 c0), PV.pd ad_16 9 x1, PV.pd ad_17 0 (D.lit (Value.int IntKind.i64
  n2))] N_48 (fun (x_12 : D) => (fun (N_49 : Nat) => ((N_48 ≤ N_49) → ((Off [(Option.some ad_15),
  (Option.some ad_16), (Option.some ad_17)] x_12) ∧ ((Bel N_49 x_12) → (∃ (n_5 : Int), (((D.cell
  x_12 0) = (D.lit (Value.int IntKind.i64 n_5))) ∧ (Br (n_5 == (0 : Int)) (∀ (N_50 : Nat), ((N_49
  ≤ N_50) → (Q (D.ag [(D.lit (Value.int IntKind.i64 (0 : Int))), (D.sl Option.none 2 [] 0)]) N_50)))
  (∃ (s_2 : ByteArray), (((D.cell x1 1) = (D.lit (Value.string s_2))) ∧ (∃ (a_6 : Option Addr),
  (∃ (es_5 : List D), (∃ (c_5 : Nat), (((D.cell x1 8) = (D.sl a_6 9 es_5 c_5)) ∧ ((((0 : Int)
  ≤ (1 : Int)) ∧ ((1 : Int) < (((List.length es_5) : Nat) : Int))) ∧ (((1 = (List.length [(D.ag
  [(D.lit (Value.string s_2)), (D.cell x_12 0), (D.cell x_12 1), (D.lit (Value.int IntKind.i64
  n2))])])) ∧ (1 = 1)) ∧ (∀ (a_7 : Option Addr), ((ApA a_7 [(D.ag [(D.lit (Value.string s_2)),
  (D.cell x_12 0), (D.cell x_12 1), (D.lit (Value.int IntKind.i64 n2))])]) → ((Off [a_7] (D.sl
  a0 4 e0 c0)) → (∀ (N_51 : Nat), ((N_49 ≤ N_51) → ((BelA N_51 [a_7]) → (ACalls prog 127 [(Sh.sl
  4)] [PV.sv a0 4 e0 c0, PV.sv a_7 4 [(D.ag [(D.lit (Value.string s_2)), (D.cell x_12 0), (D.cell
  x_12 1), (D.lit (Value.int IntKind.i64 n2))])] 1] N_51 (fun (a_8 : Option Addr) => (fun (es_6
  : List D) => (fun (c_6 : Nat) => (fun (N_52 : Nat) => ((N_51 ≤ N_52) → ((Off [a_7] (D.sl a_8
  4 es_6 c_6)) ∧ ((Bel N_52 (D.sl a_8 4 es_6 c_6)) → (∀ (N_53 : Nat), ((N_52 ≤ N_53) → (ACalls
  prog 44 [(Sh.ag 2)] [PV.sv a_8 4 es_6 c_6, PV.dg 9 (List.getD es_5 1 Inhabited.default), PV.int
  .i64 n2] N_53 (fun (x_13 : D) => (fun (N_54 : Nat) => ((N_53 ≤ N_54) → ((Bel N_54 x_13) → (∀
  (N_55 : Nat), ((N_54 ≤ N_55) → (Q x_13 N_55))))))))))))))))))))))))))))))))))))))))))))))))))
  (Br (n == (9 : Int)) (∀ (N_56 : Nat), ((N ≤ N_56) → (ACalls prog 128 [(Sh.ag 2)] [PV.dg 2 (D.sub
  x1 4 2), PV.dg 2 (D.sub x1 6 2)] N_56 (fun (x_14 : D) => (fun (N_57 : Nat) => ((N_56 ≤ N_57)
  → ((Bel N_57 x_14) → (∃ (s_3 : ByteArray), (((D.cell x1 1) = (D.lit (Value.string s_3))) ∧ (∃
  (s_4 : ByteArray), (((D.cell x1 2) = (D.lit (Value.string s_4))) ∧ (∃ (a_9 : Option Addr), (∃
  (es_7 : List D), (∃ (c_7 : Nat), (((D.cell x1 8) = (D.sl a_9 9 es_7 c_7)) ∧ ((((0 : Int) ≤ (0
  : Int)) ∧ ((0 : Int) < (((List.length es_7) : Nat) : Int))) ∧ (((2 = (List.length [(D.ag [(D.lit
  (Value.string s_3)), (D.cell x_14 0), (D.cell x_14 1), (D.lit (Value.int IntKind.i64 n2))]),
  (D.ag [(D.lit (Value.string s_4)), (D.cell (D.sub x1 4 2) 0), (D.cell (D.sub x1 4 2) 1), (D.lit
  (Value.int IntKind.i64 n2))])])) ∧ (2 = 2)) ∧ (∀ (a_10 : Option Addr), ((ApA a_10 [(D.ag [(D.lit
  (Value.string s_3)), (D.cell x_14 0), (D.cell x_14 1), (D.lit (Value.int IntKind.i64 n2))]),
  (D.ag [(D.lit (Value.string s_4)), (D.cell (D.sub x1 4 2) 0), (D.cell (D.sub x1 4 2) 1), (D.lit
  (Value.int IntKind.i64 n2))])]) → ((Off [a_10] (D.sl a0 4 e0 c0)) → (∀ (N_58 : Nat), ((N_57
  ≤ N_58) → ((BelA N_58 [a_10]) → (ACalls prog 127 [(Sh.sl 4)] [PV.sv a0 4 e0 c0, PV.sv a_10 4
  [(D.ag [(D.lit (Value.string s_3)), (D.cell x_14 0), (D.cell x_14 1), (D.lit (Value.int IntKind.i64
  n2))]), (D.ag [(D.lit (Value.string s_4)), (D.cell (D.sub x1 4 2) 0), (D.cell (D.sub x1 4 2)
  1), (D.lit (Value.int IntKind.i64 n2))])] 2] N_58 (fun (a_11 : Option Addr) => (fun (es_8 :
  List D) => (fun (c_8 : Nat) => (fun (N_59 : Nat) => ((N_58 ≤ N_59) → ((Off [a_10] (D.sl a_11
  4 es_8 c_8)) ∧ ((Bel N_59 (D.sl a_11 4 es_8 c_8)) → (∀ (N_60 : Nat), ((N_59 ≤ N_60) → (ACalls
  prog 44 [(Sh.ag 2)] [PV.sv a_11 4 es_8 c_8, PV.dg 9 (List.getD es_7 0 Inhabited.default), PV.int
  .i64 n2] N_60 (fun (x_15 : D) => (fun (N_61 : Nat) => ((N_60 ≤ N_61) → ((Bel N_61 x_15) → (∀
  (N_62 : Nat), ((N_61 ≤ N_62) → (ACalls prog 126 [Sh.bool] [PV.dg 2 x_15, PV.dg 2 (D.sub x1 6
  2)] N_62 (fun (b_3 : Bool) => (fun (N_63 : Nat) => ((N_62 ≤ N_63) → (Br b_3 (∀ (N_64 : Nat),
  ((N_63 ≤ N_64) → (Q x_14 N_64))) (∀ (N_65 : Nat), ((N_63 ≤ N_65) → (Q (D.ag [(D.lit (Value.int
  IntKind.i64 (0 : Int))), (D.sl Option.none 2 [] 0)]) N_65))))))))))))))))))))))))))))))))))))))))))))))))
  (∀ (N_66 : Nat), ((N ≤ N_66) → (ACalls prog 129 [(Sh.ag 2)] [PV.sv a0 4 e0 c0, PV.dg 9 x1, PV.int
  .i64 n2] N_66 (fun (x_16 : D) => (fun (N_67 : Nat) => ((N_66 ≤ N_67) → ((Bel N_67 x_16) → (∀
  (N_68 : Nat), ((N_67 ≤ N_68) → (Q x_16 N_68)))))))))))))))))))))))) : ACalls prog 83 [.ag 2] [PV.sv a0 4 e0 c0, PV.dg 9 x1, PV.int .i64 n2] N Q :=
  entryE (sh := sh) (H := H_impl_formType) (fuel := 400) (by kernel_rfl) (by kernel_rfl) (by kernel_rfl) h
theorem w_impl_typed (N : Nat) (a0 : Option Addr) (e0 : List D) (c0 : Nat) (x1 : D) (n2 : Int) (Q : QT [.ag 2]) (h :
((Bel N (D.sl a0 4 e0 c0)) →
((Bel N x1) →
(∀ (N_1 : Nat),
((N ≤ N_1) →
(ACalls prog 83 [(Sh.ag 2)] [PV.sv a0 4 e0 c0, PV.dg 9 x1, PV.int .i64 n2] N_1 (fun (x : D) => (fun (N_2 : Nat) => 
((N_1 ≤ N_2) →
((Bel N_2 x) →
(∀ (N_3 : Nat),
((N_2 ≤ N_3) →
(ACalls prog 79 [Sh.bool] [PV.dg 2 x] N_3 (fun (b : Bool) => (fun (N_4 : Nat) => 
((N_3 ≤ N_4) →
(Br (!b)
(∀ (N_5 : Nat),
((N_4 ≤ N_5) →
(Q (D.ag [(D.lit (Value.int IntKind.i64 (0 : Int))), (D.sl Option.none 2 [] 0)]) N_5)))
(∀ (N_6 : Nat),
((N_4 ≤ N_6) →
(Q x N_6)))))))))))))))))))) : ACalls prog 44 [.ag 2] [PV.sv a0 4 e0 c0, PV.dg 9 x1, PV.int .i64 n2] N Q :=
  entryE (sh := sh) (H := H_impl_typed) (fuel := 400) (by kernel_rfl) (by kernel_rfl) (by kernel_rfl) h
theorem w_impl_TypeOf (N : Nat) (a0 : Option Addr) (e0 : List D) (c0 : Nat) (x1 : D) (n2 : Int) (Q : QT [.ag 2, .bool]) (h :
((Bel N (D.sl a0 4 e0 c0)) →
((Bel N x1) →
(∀ (N_1 : Nat),
((N ≤ N_1) →
(ACalls prog 42 [Sh.bool] [PV.sv a0 4 e0 c0] N_1 (fun (b : Bool) => (fun (N_2 : Nat) => 
((N_1 ≤ N_2) →
(Br (!b)
(∀ (N_3 : Nat),
((N_2 ≤ N_3) →
(Q (D.ag [(D.lit (Value.int IntKind.i64 (0 : Int))), (D.sl Option.none 2 [] 0)]) false N_3)))
(∀ (N_4 : Nat),
((N_2 ≤ N_4) →
(ACalls prog 43 [Sh.bool] [PV.dg 9 x1, PV.int .i64 n2] N_4 (fun (b_1 : Bool) => (fun (N_5 : Nat) => 
((N_4 ≤ N_5) →
(Br (!b_1)
(∀ (N_6 : Nat),
((N_5 ≤ N_6) →
(Q (D.ag [(D.lit (Value.int IntKind.i64 (0 : Int))), (D.sl Option.none 2 [] 0)]) false N_6)))
(∀ (N_7 : Nat),
((N_5 ≤ N_7) →
(ACalls prog 44 [(Sh.ag 2)] [PV.sv a0 4 e0 c0, PV.dg 9 x1, PV.int .i64 n2] N_7 (fun (x : D) => (fun (N_8 : Nat) => 
((N_7 ≤ N_8) →
((Bel N_8 x) →
(∃ (n : Int),
(((D.cell x 0) = (D.lit (Value.int IntKind.i64 n))) ∧
(∀ (N_9 : Nat),
((N_8 ≤ N_9) →
(Q x (bne n (0 : Int)) N_9))))))))))))))))))))))))))))) : ACalls prog 12 [.ag 2, .bool] [PV.sv a0 4 e0 c0, PV.dg 9 x1, PV.int .i64 n2] N Q :=
  entryE (sh := sh) (H := H_impl_TypeOf) (fuel := 400) (by kernel_rfl) (by kernel_rfl) (by kernel_rfl) h
theorem l_slices_Index__str_2 (Q : QT [.int .i64]) (N0 : Nat) (a0 : Option Addr) (e0 : List D) (c0 : Nat) (s1 : ByteArray) (n7 : Int) (n8 : Int) (N : Nat) (h :
(Br (decide ((n8 < n7)))
((((0 : Int) ≤ n8) ∧
(n8 < (((List.length e0) : Nat) : Int))) ∧
(∃ (s : ByteArray),
(((List.getD e0 (Int.toNat n8) Inhabited.default) = (D.lit (Value.string s))) ∧
(Br ((ByteArray.toList s1) == (ByteArray.toList s))
(∀ (N_1 : Nat),
((N ≤ N_1) →
(Q n8 N_1)))
(L_slices_Index__str_2 Q N0 a0 e0 c0 s1 n7 (IntKind.i64.wrap (n8 + (1 : Int) : Int)) N)))))
(∀ (N_2 : Nat),
((N ≤ N_2) →
(Q (-1 : Int) N_2))))) : L_slices_Index__str_2 Q N0 a0 e0 c0 s1 n7 n8 N :=
  headE (sh := sh) (H := H_slices_Index__str) (fuel := 400) (by kernel_rfl) (by kernel_rfl) h
theorem l_impl_IsName_2 (Q : QT [.bool]) (N0 : Nat) (s0 : ByteArray) (n6 : Int) (n7 : Int) (N : Nat) (h :
(Br (decide ((n7 < n6)))
((((0 : Int) ≤ n7) ∧
(n7 < (((ByteArray.size s0) : Nat) : Int))) ∧
(Br (decide (((((UInt8.toNat (Array.getD (ByteArray.data s0) (Int.toNat n7) (OfNat.ofNat 0))) : Nat) : Int) ≥ (97 : Int))))
((((0 : Int) ≤ n7) ∧
(n7 < (((ByteArray.size s0) : Nat) : Int))) ∧
(Br (!(decide (((((UInt8.toNat (Array.getD (ByteArray.data s0) (Int.toNat n7) (OfNat.ofNat 0))) : Nat) : Int) ≤ (122 : Int)))))
(Br (n7 == (0 : Int))
(∀ (N_1 : Nat),
((N ≤ N_1) →
(Q false N_1)))
((((0 : Int) ≤ n7) ∧
(n7 < (((ByteArray.size s0) : Nat) : Int))) ∧
(Br (decide (((((UInt8.toNat (Array.getD (ByteArray.data s0) (Int.toNat n7) (OfNat.ofNat 0))) : Nat) : Int) < (48 : Int))))
(∀ (N_2 : Nat),
((N ≤ N_2) →
(Q false N_2)))
((((0 : Int) ≤ n7) ∧
(n7 < (((ByteArray.size s0) : Nat) : Int))) ∧
(Br (decide (((((UInt8.toNat (Array.getD (ByteArray.data s0) (Int.toNat n7) (OfNat.ofNat 0))) : Nat) : Int) > (57 : Int))))
(∀ (N_3 : Nat),
((N ≤ N_3) →
(Q false N_3)))
(L_impl_IsName_2 Q N0 s0 n6 (IntKind.i64.wrap (n7 + (1 : Int) : Int)) N))))))
(L_impl_IsName_2 Q N0 s0 n6 (IntKind.i64.wrap (n7 + (1 : Int) : Int)) N)))
(Br (n7 == (0 : Int))
(∀ (N_4 : Nat),
((N ≤ N_4) →
(Q false N_4)))
((((0 : Int) ≤ n7) ∧
(n7 < (((ByteArray.size s0) : Nat) : Int))) ∧
(Br (decide (((((UInt8.toNat (Array.getD (ByteArray.data s0) (Int.toNat n7) (OfNat.ofNat 0))) : Nat) : Int) < (48 : Int))))
(∀ (N_5 : Nat),
((N ≤ N_5) →
(Q false N_5)))
((((0 : Int) ≤ n7) ∧
(n7 < (((ByteArray.size s0) : Nat) : Int))) ∧
(Br (decide (((((UInt8.toNat (Array.getD (ByteArray.data s0) (Int.toNat n7) (OfNat.ofNat 0))) : Nat) : Int) > (57 : Int))))
(∀ (N_6 : Nat),
((N ≤ N_6) →
(Q false N_6)))
(L_impl_IsName_2 Q N0 s0 n6 (IntKind.i64.wrap (n7 + (1 : Int) : Int)) N))))))))
(∀ (N_7 : Nat),
((N ≤ N_7) →
(ACalls prog 60 [Sh.bool] [PV.int .i64 (((ByteArray.size s0) : Nat) : Int), PV.int .i64 (1 : Int), PV.int .i64 (4 : Int)] N_7 (fun (b : Bool) => (fun (N_8 : Nat) => 
((N_7 ≤ N_8) →
(Br b
(((5 = 5) ∧
(5 = 5)) ∧
(∀ (a : Option Addr),
((ApA a [(D.lit (Value.string (bytes [105, 102]))), (D.lit (Value.string (bytes [108, 101, 116]))), (D.lit (Value.string (bytes [108, 105, 102, 116]))), (D.lit (Value.string (bytes [114, 101, 99]))), (D.lit (Value.string (bytes [114, 117, 110])))]) →
(∀ (N_9 : Nat),
((N_8 ≤ N_9) →
((BelA N_9 [a]) →
(ACalls prog 113 [Sh.bool] [PV.sv a 0 [(D.lit (Value.string (bytes [105, 102]))), (D.lit (Value.string (bytes [108, 101, 116]))), (D.lit (Value.string (bytes [108, 105, 102, 116]))), (D.lit (Value.string (bytes [114, 101, 99]))), (D.lit (Value.string (bytes [114, 117, 110])))] 5, PV.str s0] N_9 (fun (b_1 : Bool) => (fun (N_10 : Nat) => 
((N_9 ≤ N_10) →
(∀ (N_11 : Nat),
((N_10 ≤ N_11) →
(Q (!b_1) N_11)))))))))))))
(∀ (N_12 : Nat),
((N_8 ≤ N_12) →
(Q false N_12)))))))))))) : L_impl_IsName_2 Q N0 s0 n6 n7 N :=
  headE (sh := sh) (H := H_impl_IsName) (fuel := 400) (by kernel_rfl) (by kernel_rfl) h
theorem l_impl_SizeOfType_3 (Q : QT [.int .i64]) (N0 : Nat) (n3 : Int) (a7 : Option Addr) (e7 : List D) (c7 : Nat) (n8 : Int) (n9 : Int) (N : Nat) (h :
(Br (decide ((n9 < n8)))
((((0 : Int) ≤ n9) ∧
(n9 < (((List.length e7) : Nat) : Int))) ∧
(∀ (N_1 : Nat),
((N ≤ N_1) →
(ACalls prog 114 [(Sh.int IntKind.i64)] [PV.dg 2 (List.getD e7 (Int.toNat n9) Inhabited.default)] N_1 (fun (n : Int) => (fun (N_2 : Nat) => 
((N_1 ≤ N_2) →
(L_impl_SizeOfType_3 Q N0 (IntKind.i64.wrap (n3 + n : Int)) a7 e7 c7 n8 (IntKind.i64.wrap (n9 + (1 : Int) : Int)) N_2))))))))
(∀ (N_3 : Nat),
((N ≤ N_3) →
(Q n3 N_3))))) : L_impl_SizeOfType_3 Q N0 n3 a7 e7 c7 n8 n9 N :=
  headE (sh := sh) (H := H_impl_SizeOfType) (fuel := 400) (by kernel_rfl) (by kernel_rfl) h
theorem l_impl_DepthOfType_3 (Q : QT [.int .i64]) (N0 : Nat) (n3 : Int) (a7 : Option Addr) (e7 : List D) (c7 : Nat) (n8 : Int) (n9 : Int) (N : Nat) (h :
(Br (decide ((n9 < n8)))
((((0 : Int) ≤ n9) ∧
(n9 < (((List.length e7) : Nat) : Int))) ∧
(∀ (N_1 : Nat),
((N ≤ N_1) →
(ACalls prog 115 [(Sh.int IntKind.i64)] [PV.dg 2 (List.getD e7 (Int.toNat n9) Inhabited.default)] N_1 (fun (n : Int) => (fun (N_2 : Nat) => 
((N_1 ≤ N_2) →
(L_impl_DepthOfType_3 Q N0 (if (n > n3) then n else n3) a7 e7 c7 n8 (IntKind.i64.wrap (n9 + (1 : Int) : Int)) N_2))))))))
(∀ (N_3 : Nat),
((N ≤ N_3) →
(Q (IntKind.i64.wrap (n3 + (1 : Int) : Int)) N_3))))) : L_impl_DepthOfType_3 Q N0 n3 a7 e7 c7 n8 n9 N :=
  headE (sh := sh) (H := H_impl_DepthOfType) (fuel := 400) (by kernel_rfl) (by kernel_rfl) h
theorem w_impl_allTypes_i0 (N : Nat) (x0 : D) (Q : QT [.bool]) (h :
((Bel N x0) →
(∀ (N_1 : Nat),
((N ≤ N_1) →
(ACalls prog 117 [Sh.bool] [PV.dg 2 x0] N_1 (fun (b : Bool) => (fun (N_2 : Nat) => 
((N_1 ≤ N_2) →
(Br b
(∃ (a : Option Addr),
(∃ (es : List D),
(∃ (c : Nat),
(((D.cell x0 1) = (D.sl a 2 es c)) ∧
(∀ (ad : Addr),
((ApA (Option.some ad) [(D.fn (OfNat.ofNat 117) [])]) →
((Off [(Option.some ad)] (D.sl a 2 es c)) →
(∀ (N_3 : Nat),
((N_2 ≤ N_3) →
((BelA N_3 [(Option.some ad)]) →
(ACalls prog 144 [Sh.bool] [PV.sv a 2 es c, PV.fn 145 [.pd ad 0 (.fn 117 [])]] N_3 (fun (b_1 : Bool) => (fun (N_4 : Nat) => 
((N_3 ≤ N_4) →
(∀ (N_5 : Nat),
((N_4 ≤ N_5) →
(Q (!b_1) N_5)))))))))))))))))
(∀ (N_6 : Nat),
((N_2 ≤ N_6) →
(Q false N_6)))))))))))) : ACalls prog 116 [.bool] [.dg 2 x0, .fn 117 []] N Q :=
  entryE (sh := sh) (H := H_impl_allTypes) (fuel := 400) (by kernel_rfl) (by kernel_rfl) (by kernel_rfl) h
theorem w_slices_ContainsFunc_Typing_i0 (N : Nat) (a0 : Option Addr) (e0 : List D) (c0 : Nat) (Q : QT [.bool]) (h :
((Bel N (D.sl a0 4 e0 c0)) →
(∀ (N_1 : Nat),
((N ≤ N_1) →
(ACalls prog 112 [(Sh.int IntKind.i64)] [PV.sv a0 4 e0 c0, PV.fn 77 []] N_1 (fun (n : Int) => (fun (N_2 : Nat) => 
((N_1 ≤ N_2) →
(∀ (N_3 : Nat),
((N_2 ≤ N_3) →
(Q (decide ((n ≥ (0 : Int)))) N_3))))))))))) : ACalls prog 76 [.bool] [.sv a0 4 e0 c0, .fn 77 []] N Q :=
  entryE (sh := sh) (H := H_slices_ContainsFunc_Typing) (fuel := 400) (by kernel_rfl) (by kernel_rfl) (by kernel_rfl) h
theorem w_slices_EqualFunc_Type_i0 (N : Nat) (a0 : Option Addr) (e0 : List D) (c0 : Nat) (a1 : Option Addr) (e1 : List D) (c1 : Nat) (Q : QT [.bool]) (h :
((Bel N (D.sl a0 2 e0 c0)) →
((Bel N (D.sl a1 2 e1 c1)) →
(Br (bne (((List.length e0) : Nat) : Int) (((List.length e1) : Nat) : Int))
(∀ (N_1 : Nat),
((N ≤ N_1) →
(Q false N_1)))
(L_slices_EqualFunc_Type_4 Q N a1 e1 c1 a0 e0 c0 (((List.length e0) : Nat) : Int) (0 : Int) N))))) : ACalls prog 148 [.bool] [.sv a0 2 e0 c0, .sv a1 2 e1 c1, .fn 126 []] N Q :=
  entryE (sh := sh) (H := H_slices_EqualFunc_Type) (fuel := 400) (by kernel_rfl) (by kernel_rfl) (by kernel_rfl) h
theorem w_impl_allTerms_i0 (N : Nat) (x0 : D) (Q : QT [.bool]) (h :
((Bel N x0) →
(∀ (N_1 : Nat),
((N ≤ N_1) →
(ACalls prog 118 [Sh.bool] [PV.dg 9 x0] N_1 (fun (b : Bool) => (fun (N_2 : Nat) => 
((N_1 ≤ N_2) →
(Br b
(∃ (a : Option Addr),
(∃ (es : List D),
(∃ (c : Nat),
(((D.cell x0 8) = (D.sl a 9 es c)) ∧
(∀ (ad : Addr),
((ApA (Option.some ad) [(D.fn (OfNat.ofNat 118) [])]) →
((Off [(Option.some ad)] (D.sl a 9 es c)) →
(∀ (N_3 : Nat),
((N_2 ≤ N_3) →
((BelA N_3 [(Option.some ad)]) →
(ACalls prog 88 [Sh.bool] [PV.sv a 9 es c, PV.fn 89 [.pd ad 0 (.fn 118 [])]] N_3 (fun (b_1 : Bool) => (fun (N_4 : Nat) => 
((N_3 ≤ N_4) →
(∀ (N_5 : Nat),
((N_4 ≤ N_5) →
(Q (!b_1) N_5)))))))))))))))))
(∀ (N_6 : Nat),
((N_2 ≤ N_6) →
(Q false N_6)))))))))))) : ACalls prog 58 [.bool] [.dg 9 x0, .fn 118 []] N Q :=
  entryE (sh := sh) (H := H_impl_allTerms) (fuel := 400) (by kernel_rfl) (by kernel_rfl) (by kernel_rfl) h
theorem w_impl_levels_i0 (N : Nat) (x0 : D) (n1 : Int) (Q : QT [.bool]) (h :
((Bel N x0) →
(∀ (N_1 : Nat),
((N ≤ N_1) →
(ACalls prog 82 [Sh.bool] [PV.dg 9 x0, PV.int .i64 n1] N_1 (fun (b : Bool) => (fun (N_2 : Nat) => 
((N_1 ≤ N_2) →
(Br (!b)
(∀ (N_3 : Nat),
((N_2 ≤ N_3) →
(Q false N_3)))
(∃ (a : Option Addr),
(∃ (es : List D),
(∃ (c : Nat),
(((D.cell x0 8) = (D.sl a 9 es c)) ∧
(L_impl_levels_4 Q N n1 a es c (((List.length es) : Nat) : Int) (0 : Int) x0 N_2)))))))))))))) : ACalls prog 81 [.bool] [.dg 9 x0, .int .i64 n1, .fn 82 []] N Q :=
  entryE (sh := sh) (H := H_impl_levels) (fuel := 400) (by kernel_rfl) (by kernel_rfl) (by kernel_rfl) h
theorem l_impl_counting_2 (Q : QT [.int .i64]) (N0 : Nat) (a0 : Option Addr) (e0 : List D) (c0 : Nat) (s1 : ByteArray) (n5 : Int) (N : Nat) (h :
(Br (decide ((n5 ≥ (0 : Int))))
((((0 : Int) ≤ n5) ∧
(n5 < (((List.length e0) : Nat) : Int))) ∧
(∃ (s : ByteArray),
(((if (0 = 0) then (D.cell (List.getD e0 (Int.toNat n5) Inhabited.default) 0) else (D.sub (List.getD e0 (Int.toNat n5) Inhabited.default) 0 0)) = (D.lit (Value.string s))) ∧
(Br ((ByteArray.toList s) == (ByteArray.toList s1))
(∀ (N_1 : Nat),
((N ≤ N_1) →
(Q n5 N_1)))
(L_impl_counting_2 Q N0 a0 e0 c0 s1 (IntKind.i64.wrap (n5 - (1 : Int) : Int)) N)))))
(∀ (N_2 : Nat),
((N ≤ N_2) →
(Q (-1 : Int) N_2))))) : L_impl_counting_2 Q N0 a0 e0 c0 s1 n5 N :=
  headE (sh := sh) (H := H_impl_counting) (fuel := 400) (by kernel_rfl) (by kernel_rfl) h
theorem l_impl_Type_own_3 (Q : QT [.ag 2]) (N0 : Nat) (a10 : Option Addr) (e10 : List D) (c10 : Nat) (n11 : Int) (n12 : Int) (n0_0 : Int) (a0_1 : Option Addr) (e0_1 : List D) (c0_1 : Nat) (n1_0 : Int) (a1_1 : Option Addr) (e1_1 : List D) (c1_1 : Nat) (N : Nat) (h :
(Br (decide ((n12 < n11)))
((((0 : Int) ≤ n12) ∧
(n12 < (((List.length e10) : Nat) : Int))) ∧
(∀ (N_1 : Nat),
((N ≤ N_1) →
(ACalls prog 122 [(Sh.ag 2)] [PV.dg 2 (List.getD e10 (Int.toNat n12) Inhabited.default)] N_1 (fun (x : D) => (fun (N_2 : Nat) => 
((N_1 ≤ N_2) →
((Bel N_2 x) →
((ApOk a1_1 e1_1 c1_1 [x]) ∧
((apBound e1_1 [x] 32) ∧
(∀ (c : Nat),
(L_impl_Type_own_3_v1 Q N0 a10 e10 c10 n11 (IntKind.i64.wrap (n12 + (1 : Int) : Int)) n0_0 a0_1 e0_1 c0_1 n1_0 (List.length (e1_1 ++ [x])) c (e1_1 ++ [x]) c N_2))))))))))))
(∀ (N_3 : Nat),
((N ≤ N_3) →
(Q (D.ag [(D.lit (Value.int IntKind.i64 n1_0)), (D.sl a1_1 2 e1_1 c1_1)]) N_3))))) : L_impl_Type_own_3 Q N0 a10 e10 c10 n11 n12 n0_0 a0_1 e0_1 c0_1 n1_0 a1_1 e1_1 c1_1 N :=
  headE (sh := sh) (H := H_impl_Type_own) (fuel := 400) (by kernel_rfl) (by kernel_rfl) h
theorem l_impl_opType_11 (Q : QT [.ag 2]) (N0 : Nat) (a22 : Option Addr) (e22 : List D) (c22 : Nat) (n23 : Int) (n24 : Int) (n0_0 : Int) (a0_1 : Option Addr) (e0_1 : List D) (c0_1 : Nat) (y1 : D) (y2 : D) (N : Nat) (h :
(Br (decide ((n24 < n23)))
((((0 : Int) ≤ n24) ∧
(n24 < (((List.length e22) : Nat) : Int))) ∧
(∀ (N_1 : Nat),
((N ≤ N_1) →
(ACalls prog 126 [Sh.bool] [PV.dg 2 (List.getD e22 (Int.toNat n24) Inhabited.default), PV.dg 2 y1] N_1 (fun (b : Bool) => (fun (N_2 : Nat) => 
((N_1 ≤ N_2) →
(Br (!b)
(∀ (N_3 : Nat),
((N_2 ≤ N_3) →
(Q (D.ag [(D.lit (Value.int IntKind.i64 (0 : Int))), (D.sl Option.none 2 [] 0)]) N_3)))
(L_impl_opType_11 Q N0 a22 e22 c22 n23 (IntKind.i64.wrap (n24 + (1 : Int) : Int)) n0_0 a0_1 e0_1 c0_1 y1 y2 N_2)))))))))
(∀ (N_4 : Nat),
((N ≤ N_4) →
(Q y2 N_4))))) : L_impl_opType_11 Q N0 a22 e22 c22 n23 n24 n0_0 a0_1 e0_1 c0_1 y1 y2 N :=
  headE (sh := sh) (H := H_impl_opType) (fuel := 400) (by kernel_rfl) (by kernel_rfl) h
theorem l_impl_SafeCtx_3 (Q : QT [.sl 4]) (N0 : Nat) (a0 : Option Addr) (e0 : List D) (c0 : Nat) (n1 : Int) (m5 : Nat) (c5 : Nat) (a9 : Option Addr) (e9 : List D) (c9 : Nat) (n10 : Int) (n11 : Int) (r0 : List D) (q0 : Nat) (N : Nat) (h :
(Br (decide ((n11 < n10)))
((((0 : Int) ≤ n11) ∧
(n11 < (((List.length e9) : Nat) : Int))) ∧
(∀ (N_1 : Nat),
((N ≤ N_1) →
(ACalls prog 91 [Sh.bool] [PV.dg 2 (D.sub (List.getD e9 (Int.toNat n11) Inhabited.default) 1 2)] N_1 (fun (b : Bool) => (fun (N_2 : Nat) => 
((N_1 ≤ N_2) →
(Br b
(∃ (n : Int),
(((D.cell (List.getD e9 (Int.toNat n11) Inhabited.default) 3) = (D.lit (Value.int IntKind.i64 n))) ∧
(Br (decide ((n ≤ n1)))
(∃ (s : ByteArray),
(((D.cell (List.getD e9 (Int.toNat n11) Inhabited.default) 0) = (D.lit (Value.string s))) ∧
(∀ (N_3 : Nat),
((N_2 ≤ N_3) →
(ACalls prog 121 [(Sh.int IntKind.i64)] [PV.sv a0 4 e0 c0, PV.str s] N_3 (fun (n_1 : Int) => (fun (N_4 : Nat) => 
((N_3 ≤ N_4) →
(Br (n_1 == n11)
(∃ (s_1 : ByteArray),
(((D.cell (List.getD e9 (Int.toNat n11) Inhabited.default) 0) = (D.lit (Value.string s_1))) ∧
(∃ (n_2 : Int),
(((D.cell (List.getD e9 (Int.toNat n11) Inhabited.default) 3) = (D.lit (Value.int IntKind.i64 n_2))) ∧
(∀ (N_5 : Nat),
((N_4 ≤ N_5) →
(ACalls prog 122 [(Sh.ag 2)] [PV.dg 2 (D.sub (List.getD e9 (Int.toNat n11) Inhabited.default) 1 2)] N_5 (fun (x : D) => (fun (N_6 : Nat) => 
((N_5 ≤ N_6) →
((Bel N_6 x) →
(((m5 = (List.length r0)) ∧
(c5 = q0)) ∧
((apBound r0 [(D.ag [(D.lit (Value.string s_1)), (D.cell x 0), (D.cell x 1), (D.lit (Value.int IntKind.i64 n_2))])] 56) ∧
(∀ (c : Nat),
(L_impl_SafeCtx_3 Q N0 a0 e0 c0 n1 (List.length (r0 ++ [(D.ag [(D.lit (Value.string s_1)), (D.cell x 0), (D.cell x 1), (D.lit (Value.int IntKind.i64 n_2))])])) c a9 e9 c9 n10 (IntKind.i64.wrap (n11 + (1 : Int) : Int)) (r0 ++ [(D.ag [(D.lit (Value.string s_1)), (D.cell x 0), (D.cell x 1), (D.lit (Value.int IntKind.i64 n_2))])]) c N_6)))))))))))))))
(L_impl_SafeCtx_3 Q N0 a0 e0 c0 n1 m5 c5 a9 e9 c9 n10 (IntKind.i64.wrap (n11 + (1 : Int) : Int)) r0 q0 N_4))))))))))
(L_impl_SafeCtx_3 Q N0 a0 e0 c0 n1 m5 c5 a9 e9 c9 n10 (IntKind.i64.wrap (n11 + (1 : Int) : Int)) r0 q0 N_2))))
(L_impl_SafeCtx_3 Q N0 a0 e0 c0 n1 m5 c5 a9 e9 c9 n10 (IntKind.i64.wrap (n11 + (1 : Int) : Int)) r0 q0 N_2)))))))))
(((m5 = (List.length r0)) ∧
(c5 = q0)) ∧
(((m5 = (List.length r0)) ∧
(c5 = q0)) ∧
(((m5 = (List.length r0)) ∧
(c5 = q0)) ∧
(∀ (a : Option Addr),
(∀ (N_7 : Nat),
((N ≤ N_7) →
((Fresh N0 N_7 a [(D.ag r0)]) →
(∀ (N_8 : Nat),
((N_7 ≤ N_8) →
(Q a r0 q0 N_8)))))))))))) : L_impl_SafeCtx_3 Q N0 a0 e0 c0 n1 m5 c5 a9 e9 c9 n10 n11 r0 q0 N :=
  headE (sh := sh) (H := H_impl_SafeCtx) (fuel := 400) (by kernel_rfl) (by kernel_rfl) h
theorem l_impl_formType_15 (Q : QT [.ag 2]) (N0 : Nat) (m9 : Nat) (c9 : Nat) (n57 : Int) (n58 : Int) (y0 : D) (n1_0 : Int) (a1_1 : Option Addr) (e1_1 : List D) (c1_1 : Nat) (a2_0 : Option Addr) (e2_0 : List D) (c2_0 : Nat) (n3_0 : Int) (r4 : List D) (q4 : Nat) (N : Nat) (h :
(Br (decide ((n58 < n57)))
(∀ (ad : Addr),
((ApA (Option.some ad) [(D.sl a2_0 4 e2_0 c2_0)]) →
(∀ (ad_1 : Addr),
((ApA (Option.some ad_1) [y0]) →
(∀ (ad_2 : Addr),
((ApA (Option.some ad_2) [(D.lit (Value.int IntKind.i64 n3_0))]) →
(∀ (N_1 : Nat),
((N ≤ N_1) →
((BelA N_1 [(Option.some ad), (Option.some ad_1), (Option.some ad_2)]) →
(ACalls prog 120 [(Sh.ag 2)] [PV.int .i64 n58, PV.pd ad 0 (D.sl a2_0 4 e2_0 c2_0), PV.pd ad_1 9 y0, PV.pd ad_2 0 (D.lit (Value.int IntKind.i64 n3_0))] N_1 (fun (x : D) => (fun (N_2 : Nat) => 
((N_1 ≤ N_2) →
((Off [(Option.some ad), (Option.some ad_1), (Option.some ad_2)] x) ∧
((Bel N_2 x) →
(((m9 = (List.length r4)) ∧
(c9 = q4)) ∧
((apBound r4 [x] 32) ∧
(∀ (c : Nat),
(L_impl_formType_15 Q N0 (List.length (r4 ++ [x])) c n57 (IntKind.i64.wrap (n58 + (1 : Int) : Int)) y0 n1_0 a1_1 e1_1 c1_1 a2_0 e2_0 c2_0 n3_0 (r4 ++ [x]) c N_2)))))))))))))))))))
(∃ (s : ByteArray),
(((D.cell y0 1) = (D.lit (Value.string s))) ∧
(((m9 = (List.length r4)) ∧
(c9 = q4)) ∧
(∀ (a : Option Addr),
((ApA a r4) →
(∀ (N_3 : Nat),
((N ≤ N_3) →
((BelA N_3 [a]) →
(ACalls prog 125 [(Sh.ag 2)] [PV.str s, PV.sv a 2 r4 c9] N_3 (fun (x_1 : D) => (fun (N_4 : Nat) => 
((N_3 ≤ N_4) →
((Off [a] x_1) ∧
((Bel N_4 x_1) →
(∀ (N_5 : Nat),
((N_4 ≤ N_5) →
(Q x_1 N_5))))))))))))))))))) : L_impl_formType_15 Q N0 m9 c9 n57 n58 y0 n1_0 a1_1 e1_1 c1_1 a2_0 e2_0 c2_0 n3_0 r4 q4 N :=
  headE (sh := sh) (H := H_impl_formType) (fuel := 400) (by kernel_rfl) (by kernel_rfl) h
theorem w_impl_formType_1_i0 (N : Nat) (n0 : Int) (a1 : Addr) (x1_ : D) (a2 : Addr) (x2_ : D) (a3 : Addr) (x3_ : D) (Q : QT [.ag 2]) (h :
(∃ (a : Option Addr),
(∃ (es : List D),
(∃ (c : Nat),
((x1_ = (D.sl a 4 es c)) ∧
(∃ (a_1 : Option Addr),
(∃ (es_1 : List D),
(∃ (c_1 : Nat),
(((if (0 = 0) then (D.cell x2_ 8) else (D.sub x2_ 8 0)) = (D.sl a_1 9 es_1 c_1)) ∧
((((0 : Int) ≤ n0) ∧
(n0 < (((List.length es_1) : Nat) : Int))) ∧
(∃ (n : Int),
((x3_ = (D.lit (Value.int IntKind.i64 n))) ∧
(∀ (N_1 : Nat),
((N ≤ N_1) →
(ACalls prog 44 [(Sh.ag 2)] [PV.sv a 4 es c, PV.dg 9 (List.getD es_1 (Int.toNat n0) Inhabited.default), PV.int .i64 n] N_1 (fun (x : D) => (fun (N_2 : Nat) => 
((N_1 ≤ N_2) →
((Bel N_2 x) →
(∀ (N_3 : Nat),
((N_2 ≤ N_3) →
(Q x N_3)))))))))))))))))))))) : ACalls prog 120 [.ag 2] [.int .i64 n0, .pd a1 0 x1_, .pd a2 9 x2_, .pd a3 0 x3_] N Q :=
  entryE (sh := sh) (H := H_impl_formType_1) (fuel := 400) (by kernel_rfl) (by kernel_rfl) (by kernel_rfl) h
theorem w_slices_ContainsFunc_Type_i0 (N : Nat) (a0 : Option Addr) (e0 : List D) (c0 : Nat) (a1_0 : Addr) (Q : QT [.bool]) (h :
((Bel N (D.sl a0 2 e0 c0)) →
(∀ (N_1 : Nat),
((N ≤ N_1) →
(ACalls prog 154 [(Sh.int IntKind.i64)] [PV.sv a0 2 e0 c0, PV.fn 145 [.pd a1_0 0 (.fn 117 [])]] N_1 (fun (n : Int) => (fun (N_2 : Nat) => 
((N_1 ≤ N_2) →
(∀ (N_3 : Nat),
((N_2 ≤ N_3) →
(Q (decide ((n ≥ (0 : Int)))) N_3))))))))))) : ACalls prog 144 [.bool] [.sv a0 2 e0 c0, .fn 145 [.pd a1_0 0 (.fn 117 [])]] N Q :=
  entryE (sh := sh) (H := H_slices_ContainsFunc_Type) (fuel := 400) (by kernel_rfl) (by kernel_rfl) (by kernel_rfl) h
theorem w_slices_IndexFunc_Typing_i0 (N : Nat) (a0 : Option Addr) (e0 : List D) (c0 : Nat) (Q : QT [.int .i64]) (h :
((Bel N (D.sl a0 4 e0 c0)) →
(L_slices_IndexFunc_Typing_2 Q N a0 e0 c0 (((List.length e0) : Nat) : Int) (0 : Int) N))) : ACalls prog 112 [.int .i64] [.sv a0 4 e0 c0, .fn 77 []] N Q :=
  entryE (sh := sh) (H := H_slices_IndexFunc_Typing) (fuel := 400) (by kernel_rfl) (by kernel_rfl) (by kernel_rfl) h
theorem l_slices_EqualFunc_Type_4 (Q : QT [.bool]) (N0 : Nat) (a1 : Option Addr) (e1 : List D) (c1 : Nat) (a15 : Option Addr) (e15 : List D) (c15 : Nat) (n16 : Int) (n17 : Int) (N : Nat) (h :
(Br (decide ((n17 < n16)))
((((0 : Int) ≤ n17) ∧
(n17 < (((List.length e15) : Nat) : Int))) ∧
((((0 : Int) ≤ n17) ∧
(n17 < (((List.length e1) : Nat) : Int))) ∧
(∀ (N_1 : Nat),
((N ≤ N_1) →
(ACalls prog 126 [Sh.bool] [PV.dg 2 (List.getD e15 (Int.toNat n17) Inhabited.default), PV.dg 2 (List.getD e1 (Int.toNat n17) Inhabited.default)] N_1 (fun (b : Bool) => (fun (N_2 : Nat) => 
((N_1 ≤ N_2) →
(Br (!b)
(∀ (N_3 : Nat),
((N_2 ≤ N_3) →
(Q false N_3)))
(L_slices_EqualFunc_Type_4 Q N0 a1 e1 c1 a15 e15 c15 n16 (IntKind.i64.wrap (n17 + (1 : Int) : Int)) N_2))))))))))
(∀ (N_4 : Nat),
((N ≤ N_4) →
(Q true N_4))))) : L_slices_EqualFunc_Type_4 Q N0 a1 e1 c1 a15 e15 c15 n16 n17 N :=
  headE (sh := sh) (H := H_slices_EqualFunc_Type) (fuel := 400) (by kernel_rfl) (by kernel_rfl) h
theorem w_slices_ContainsFunc_Term_i0 (N : Nat) (a0 : Option Addr) (e0 : List D) (c0 : Nat) (a1_0 : Addr) (Q : QT [.bool]) (h :
((Bel N (D.sl a0 9 e0 c0)) →
(∀ (N_1 : Nat),
((N ≤ N_1) →
(ACalls prog 131 [(Sh.int IntKind.i64)] [PV.sv a0 9 e0 c0, PV.fn 89 [.pd a1_0 0 (.fn 118 [])]] N_1 (fun (n : Int) => (fun (N_2 : Nat) => 
((N_1 ≤ N_2) →
(∀ (N_3 : Nat),
((N_2 ≤ N_3) →
(Q (decide ((n ≥ (0 : Int)))) N_3))))))))))) : ACalls prog 88 [.bool] [.sv a0 9 e0 c0, .fn 89 [.pd a1_0 0 (.fn 118 [])]] N Q :=
  entryE (sh := sh) (H := H_slices_ContainsFunc_Term) (fuel := 400) (by kernel_rfl) (by kernel_rfl) (by kernel_rfl) h
theorem l_impl_levels_4 (Q : QT [.bool]) (N0 : Nat) (n1 : Int) (a15 : Option Addr) (e15 : List D) (c15 : Nat) (n16 : Int) (n17 : Int) (y0 : D) (N : Nat) (h :
(Br (decide ((n17 < n16)))
((((0 : Int) ≤ n17) ∧
(n17 < (((List.length e15) : Nat) : Int))) ∧
(∀ (N_1 : Nat),
((N ≤ N_1) →
(ACalls prog 119 [(Sh.int IntKind.i64)] [PV.dg 9 y0, PV.int .i64 n1] N_1 (fun (n : Int) => (fun (N_2 : Nat) => 
((N_1 ≤ N_2) →
(∀ (N_3 : Nat),
((N_2 ≤ N_3) →
(ACalls prog 81 [Sh.bool] [PV.dg 9 (List.getD e15 (Int.toNat n17) Inhabited.default), PV.int .i64 n, PV.fn 82 []] N_3 (fun (b : Bool) => (fun (N_4 : Nat) => 
((N_3 ≤ N_4) →
(Br (!b)
(∀ (N_5 : Nat),
((N_4 ≤ N_5) →
(Q false N_5)))
(L_impl_levels_4 Q N0 n1 a15 e15 c15 n16 (IntKind.i64.wrap (n17 + (1 : Int) : Int)) y0 N_4)))))))))))))))
(∀ (N_6 : Nat),
((N ≤ N_6) →
(Q true N_6))))) : L_impl_levels_4 Q N0 n1 a15 e15 c15 n16 n17 y0 N :=
  headE (sh := sh) (H := H_impl_levels) (fuel := 400) (by kernel_rfl) (by kernel_rfl) h
theorem l_impl_Type_own_3_v1 (Q : QT [.ag 2]) (N0 : Nat) (a10 : Option Addr) (e10 : List D) (c10 : Nat) (n11 : Int) (n12 : Int) (n0_0 : Int) (a0_1 : Option Addr) (e0_1 : List D) (c0_1 : Nat) (n1_0 : Int) (m1_1 : Nat) (c1_1 : Nat) (r2 : List D) (q2 : Nat) (N : Nat) (h :
(Br (decide ((n12 < n11)))
((((0 : Int) ≤ n12) ∧
(n12 < (((List.length e10) : Nat) : Int))) ∧
(∀ (N_1 : Nat),
((N ≤ N_1) →
(ACalls prog 122 [(Sh.ag 2)] [PV.dg 2 (List.getD e10 (Int.toNat n12) Inhabited.default)] N_1 (fun (x : D) => (fun (N_2 : Nat) => 
((N_1 ≤ N_2) →
((Bel N_2 x) →
(((m1_1 = (List.length r2)) ∧
(c1_1 = q2)) ∧
((apBound r2 [x] 32) ∧
(∀ (c : Nat),
(L_impl_Type_own_3_v1 Q N0 a10 e10 c10 n11 (IntKind.i64.wrap (n12 + (1 : Int) : Int)) n0_0 a0_1 e0_1 c0_1 n1_0 (List.length (r2 ++ [x])) c (r2 ++ [x]) c N_2))))))))))))
(((m1_1 = (List.length r2)) ∧
(c1_1 = q2)) ∧
(((m1_1 = (List.length r2)) ∧
(c1_1 = q2)) ∧
(((m1_1 = (List.length r2)) ∧
(c1_1 = q2)) ∧
(∀ (a : Option Addr),
(∀ (N_3 : Nat),
((N ≤ N_3) →
((Fresh N0 N_3 a [(D.ag r2)]) →
(∀ (N_4 : Nat),
((N_3 ≤ N_4) →
(Q (D.ag [(D.lit (Value.int IntKind.i64 n1_0)), (D.sl a 2 r2 q2)]) N_4)))))))))))) : L_impl_Type_own_3_v1 Q N0 a10 e10 c10 n11 n12 n0_0 a0_1 e0_1 c0_1 n1_0 m1_1 c1_1 r2 q2 N :=
  headE (sh := sh) (H := H_impl_Type_own) (fuel := 400) (by kernel_rfl) (by kernel_rfl) h
theorem w_slices_IndexFunc_Type_i0 (N : Nat) (a0 : Option Addr) (e0 : List D) (c0 : Nat) (a1_0 : Addr) (Q : QT [.int .i64]) (h :
((Bel N (D.sl a0 2 e0 c0)) →
(L_slices_IndexFunc_Type_2 Q N a0 e0 c0 a1_0 (((List.length e0) : Nat) : Int) (0 : Int) N))) : ACalls prog 154 [.int .i64] [.sv a0 2 e0 c0, .fn 145 [.pd a1_0 0 (.fn 117 [])]] N Q :=
  entryE (sh := sh) (H := H_slices_IndexFunc_Type) (fuel := 400) (by kernel_rfl) (by kernel_rfl) (by kernel_rfl) h
theorem l_slices_IndexFunc_Typing_2 (Q : QT [.int .i64]) (N0 : Nat) (a0 : Option Addr) (e0 : List D) (c0 : Nat) (n7 : Int) (n8 : Int) (N : Nat) (h :
(Br (decide ((n8 < n7)))
((((0 : Int) ≤ n8) ∧
(n8 < (((List.length e0) : Nat) : Int))) ∧
(∀ (N_1 : Nat),
((N ≤ N_1) →
(ACalls prog 77 [Sh.bool] [PV.dg 4 (List.getD e0 (Int.toNat n8) Inhabited.default)] N_1 (fun (b : Bool) => (fun (N_2 : Nat) => 
((N_1 ≤ N_2) →
(Br b
(∀ (N_3 : Nat),
((N_2 ≤ N_3) →
(Q n8 N_3)))
(L_slices_IndexFunc_Typing_2 Q N0 a0 e0 c0 n7 (IntKind.i64.wrap (n8 + (1 : Int) : Int)) N_2)))))))))
(∀ (N_4 : Nat),
((N ≤ N_4) →
(Q (-1 : Int) N_4))))) : L_slices_IndexFunc_Typing_2 Q N0 a0 e0 c0 n7 n8 N :=
  headE (sh := sh) (H := H_slices_IndexFunc_Typing) (fuel := 400) (by kernel_rfl) (by kernel_rfl) h
theorem w_slices_IndexFunc_Term_i0 (N : Nat) (a0 : Option Addr) (e0 : List D) (c0 : Nat) (a1_0 : Addr) (Q : QT [.int .i64]) (h :
((Bel N (D.sl a0 9 e0 c0)) →
(L_slices_IndexFunc_Term_2 Q N a0 e0 c0 a1_0 (((List.length e0) : Nat) : Int) (0 : Int) N))) : ACalls prog 131 [.int .i64] [.sv a0 9 e0 c0, .fn 89 [.pd a1_0 0 (.fn 118 [])]] N Q :=
  entryE (sh := sh) (H := H_slices_IndexFunc_Term) (fuel := 400) (by kernel_rfl) (by kernel_rfl) (by kernel_rfl) h
theorem l_slices_IndexFunc_Type_2 (Q : QT [.int .i64]) (N0 : Nat) (a0 : Option Addr) (e0 : List D) (c0 : Nat) (a1_0 : Addr) (n7 : Int) (n8 : Int) (N : Nat) (h :
(Br (decide ((n8 < n7)))
((((0 : Int) ≤ n8) ∧
(n8 < (((List.length e0) : Nat) : Int))) ∧
(∀ (N_1 : Nat),
((N ≤ N_1) →
(ACalls prog 145 [Sh.bool] [PV.dg 2 (List.getD e0 (Int.toNat n8) Inhabited.default), PV.pd a1_0 0 (.fn 117 [])] N_1 (fun (b : Bool) => (fun (N_2 : Nat) => 
((N_1 ≤ N_2) →
(Br b
(∀ (N_3 : Nat),
((N_2 ≤ N_3) →
(Q n8 N_3)))
(L_slices_IndexFunc_Type_2 Q N0 a0 e0 c0 a1_0 n7 (IntKind.i64.wrap (n8 + (1 : Int) : Int)) N_2)))))))))
(∀ (N_4 : Nat),
((N ≤ N_4) →
(Q (-1 : Int) N_4))))) : L_slices_IndexFunc_Type_2 Q N0 a0 e0 c0 a1_0 n7 n8 N :=
  headE (sh := sh) (H := H_slices_IndexFunc_Type) (fuel := 400) (by kernel_rfl) (by kernel_rfl) h
theorem l_slices_IndexFunc_Term_2 (Q : QT [.int .i64]) (N0 : Nat) (a0 : Option Addr) (e0 : List D) (c0 : Nat) (a1_0 : Addr) (n7 : Int) (n8 : Int) (N : Nat) (h :
(Br (decide ((n8 < n7)))
((((0 : Int) ≤ n8) ∧
(n8 < (((List.length e0) : Nat) : Int))) ∧
(∀ (N_1 : Nat),
((N ≤ N_1) →
(ACalls prog 89 [Sh.bool] [PV.dg 9 (List.getD e0 (Int.toNat n8) Inhabited.default), PV.pd a1_0 0 (.fn 118 [])] N_1 (fun (b : Bool) => (fun (N_2 : Nat) => 
((N_1 ≤ N_2) →
(Br b
(∀ (N_3 : Nat),
((N_2 ≤ N_3) →
(Q n8 N_3)))
(L_slices_IndexFunc_Term_2 Q N0 a0 e0 c0 a1_0 n7 (IntKind.i64.wrap (n8 + (1 : Int) : Int)) N_2)))))))))
(∀ (N_4 : Nat),
((N ≤ N_4) →
(Q (-1 : Int) N_4))))) : L_slices_IndexFunc_Term_2 Q N0 a0 e0 c0 a1_0 n7 n8 N :=
  headE (sh := sh) (H := H_slices_IndexFunc_Term) (fuel := 400) (by kernel_rfl) (by kernel_rfl) h
theorem w_impl_allTypes_1_i0 (N : Nat) (x0 : D) (a1 : Addr) (Q : QT [.bool]) (h :
((Bel N x0) →
(∀ (N_1 : Nat),
((N ≤ N_1) →
(ACalls prog 116 [Sh.bool] [PV.dg 2 x0, PV.fn 117 []] N_1 (fun (b : Bool) => (fun (N_2 : Nat) => 
((N_1 ≤ N_2) →
(∀ (N_3 : Nat),
((N_2 ≤ N_3) →
(Q (!b) N_3))))))))))) : ACalls prog 145 [.bool] [.dg 2 x0, .pd a1 0 (.fn 117 [])] N Q :=
  entryE (sh := sh) (H := H_impl_allTypes_1) (fuel := 400) (by kernel_rfl) (by kernel_rfl) (by kernel_rfl) h
theorem w_impl_allTerms_1_i0 (N : Nat) (x0 : D) (a1 : Addr) (Q : QT [.bool]) (h :
((Bel N x0) →
(∀ (N_1 : Nat),
((N ≤ N_1) →
(ACalls prog 58 [Sh.bool] [PV.dg 9 x0, PV.fn 118 []] N_1 (fun (b : Bool) => (fun (N_2 : Nat) => 
((N_1 ≤ N_2) →
(∀ (N_3 : Nat),
((N_2 ≤ N_3) →
(Q (!b) N_3))))))))))) : ACalls prog 89 [.bool] [.dg 9 x0, .pd a1 0 (.fn 118 [])] N Q :=
  entryE (sh := sh) (H := H_impl_allTerms_1) (fuel := 400) (by kernel_rfl) (by kernel_rfl) (by kernel_rfl) h

end Go.Proofs.YtobhcgffgpcjgaaGreat
