/- Printed by gen.py: what the functions come to. -/
import Derived.Test.YtobhcgffgpcjgaaGreatJh
set_option linter.unusedVariables false
set_option maxRecDepth 100000
namespace Go.Proofs.YtobhcgffgpcjgaaGreat
open Go Go.Proofs Go.Proofs.Tryz
def H_spec_l1In : Hint := { cuts := [], joins := [], ords := [] }
def H_spec_IsName : Hint := { cuts := [{ id := 2, keep := [0, 3] }], joins := [], ords := [] }
def H_spec_l3Left : Hint := { cuts := [{ id := 3, keep := [1, 2, 5] }], joins := [], ords := [(5, [{ i := 0, hard := true }, { i := 1, hard := true }, { i := 2, hard := true }, { i := 3, hard := true }, { i := 4, hard := true }, { i := 5, hard := true }, { i := 6, hard := true, cl := [23] }, { i := 7, hard := true }])] }
def H_spec_l1Max : Hint := { cuts := [], joins := [], ords := [] }
def H_spec_DepthOfType : Hint := { cuts := [{ id := 3, keep := [1, 3, 4] }], joins := [], ords := [(5, [{ i := 0, hard := true }, { i := 1, hard := true }, { i := 2, hard := true }, { i := 3, hard := true }, { i := 4, hard := true }, { i := 5, hard := true }, { i := 6, hard := true, cl := [17] }, { i := 7, hard := true }, { i := 8, hard := true }])] }
def H_spec_l3Form : Hint := { cuts := [{ id := 2, keep := [1, 3] }], joins := [], ords := [(4, [{ i := 0, hard := true }, { i := 1, hard := true }, { i := 2, hard := true }, { i := 3, hard := true }, { i := 4, hard := true }, { i := 5, hard := true, cl := [15] }, { i := 6, hard := true }])] }
def H_spec_IsValidType : Hint := { cuts := [], joins := [], ords := [(1, [{ i := 0, hard := true }, { i := 1, hard := true, cl := [3] }, { i := 2, hard := true }, { i := 3, hard := true }, { i := 4, hard := true }, { i := 5, hard := true, cl := [7] }, { i := 6, hard := true }, { i := 7, hard := true }, { i := 8, hard := true }, { i := 9, hard := true }, { i := 10, hard := true, cl := [12] }, { i := 11, hard := true }, { i := 12, hard := true }])] }
def H_spec_l5Zero : Hint := { cuts := [], joins := [], ords := [] }
def H_spec_OpArity : Hint := { cuts := [], joins := [], ords := [] }
def H_spec_l5Names : Hint := { cuts := [], joins := [], ords := [] }
def H_spec_l5Fields : Hint := { cuts := [], joins := [], ords := [(2, [{ i := 0, hard := true }, { i := 1, hard := true }, { i := 2, hard := true }, { i := 3, hard := true, cl := [15] }, { i := 4, hard := true }, { i := 5, hard := true }, { i := 6, hard := true }, { i := 7, hard := true }, { i := 8, hard := true }, { i := 9, hard := true }, { i := 10, hard := true }, { i := 11, hard := true, cl := [23] }, { i := 12, hard := true }, { i := 13, hard := true }, { i := 14, hard := true }]),
  (4, [{ i := 0 }, { i := 1 }, { i := 2 }, { i := 3 }, { i := 4 }, { i := 5, hard := true, cl := [32] }, { i := 6 }, { i := 7 }, { i := 8 }, { i := 9 }, { i := 10 }, { i := 11 }, { i := 12 }, { i := 13 }, { i := 14, hard := true, cl := [41] }, { i := 15 }, { i := 16 }, { i := 17 }]),
  (12, [{ i := 0, hard := true }, { i := 1, hard := true }, { i := 2, hard := true }, { i := 3, hard := true }, { i := 4, hard := true }, { i := 5, hard := true }, { i := 6, hard := true, cl := [57] }, { i := 7, hard := true }, { i := 8, hard := true }])] }
def H_spec_l5Arity : Hint := { cuts := [], joins := [], ords := [] }
def H_spec_IsTerm : Hint := { cuts := [{ id := 2, keep := [1, 3] }], joins := [], ords := [(4, [{ i := 0, hard := true }, { i := 1, hard := true }, { i := 2, hard := true }, { i := 3, hard := true }, { i := 4, hard := true }, { i := 5, hard := true, cl := [15] }, { i := 6, hard := true }]),
  (6, [{ i := 0 }, { i := 1, hard := true, cl := [18] }, { i := 2 }, { i := 3 }, { i := 4 }, { i := 5 }, { i := 6 }, { i := 7, hard := true, cl := [24] }, { i := 8 }, { i := 9 }, { i := 10 }])] }
def H_spec_l8Next : Hint := { cuts := [], joins := [], ords := [] }
def H_spec_l9Last : Hint := { cuts := [{ id := 2, keep := [0, 1, 5] }], joins := [], ords := [] }
def H_spec_l3Copy : Hint := { cuts := [{ id := 3, keep := [1, 2, 3, 4] }], joins := [], ords := [(5, [{ i := 0 }, { i := 1 }, { i := 2 }, { i := 3 }, { i := 4 }, { i := 5 }, { i := 6 }, { i := 7, hard := true, cl := [21] }, { i := 8 }, { i := 9, hard := true }, { i := 10 }, { i := 11, hard := true }])] }
def H_spec_l3Int : Hint := { cuts := [], joins := [], ords := [] }
def H_spec_l3Bool : Hint := { cuts := [], joins := [], ords := [] }
def H_spec_l9With : Hint := { cuts := [], joins := [], ords := [] }
def H_spec_l3Fun : Hint := { cuts := [], joins := [], ords := [(1, [{ i := 0 }, { i := 2 }, { i := 1, hard := true, cl := [5] }, { i := 3, hard := true, cl := [7] }, { i := 4 }, { i := 5 }, { i := 6, hard := true }])] }
def H_spec_EqualType : Hint := { cuts := [{ id := 4, keep := [2, 3, 5] }], joins := [], ords := [(6, [{ i := 0 }, { i := 1 }, { i := 2 }, { i := 3 }, { i := 4 }, { i := 5 }, { i := 6 }, { i := 7 }, { i := 8 }, { i := 9 }, { i := 10, hard := true, cl := [31, 36] }, { i := 11 }])] }
def H_spec_l9Bind : Hint := { cuts := [], joins := [], ords := [(3, [{ i := 0 }, { i := 1 }, { i := 2 }, { i := 3 }, { i := 4 }, { i := 5 }, { i := 7 }, { i := 8 }, { i := 9 }, { i := 10 }, { i := 11 }, { i := 16 }, { i := 6, hard := true, cl := [26] }, { i := 12, hard := true, cl := [32] }, { i := 13 }, { i := 14 }, { i := 15 }, { i := 17, hard := true }, { i := 18 }]),
  (4, [{ i := 0, hard := true }, { i := 1, hard := true }, { i := 2, hard := true }, { i := 3, hard := true, cl := [38, 39] }, { i := 4, hard := true }, { i := 5, hard := true }, { i := 6, hard := true }]),
  (6, [{ i := 0, hard := true }, { i := 1, hard := true }, { i := 2, hard := true }, { i := 3, hard := true }, { i := 4, hard := true }, { i := 5, hard := true }, { i := 6, hard := true, cl := [49] }, { i := 7, hard := true }, { i := 8, hard := true }, { i := 9, hard := true }, { i := 10, hard := true }, { i := 11, hard := true }, { i := 12, hard := true }]),
  (9, [{ i := 0 }, { i := 1 }, { i := 2 }, { i := 3 }, { i := 4 }, { i := 6 }, { i := 7 }, { i := 8 }, { i := 9 }, { i := 10 }, { i := 15 }, { i := 5, hard := true, cl := [61] }, { i := 11, hard := true, cl := [67] }, { i := 12 }, { i := 13 }, { i := 14 }, { i := 16, hard := true }, { i := 17 }]),
  (11, [{ i := 0, hard := true }, { i := 1, hard := true }, { i := 2, hard := true }, { i := 3, hard := true }, { i := 4, hard := true, cl := [75, 77] }, { i := 5, hard := true }, { i := 6, hard := true }]),
  (12, [{ i := 0 }, { i := 1 }, { i := 2 }, { i := 3 }, { i := 4 }, { i := 6 }, { i := 7 }, { i := 8 }, { i := 9 }, { i := 10 }, { i := 12 }, { i := 13 }, { i := 14 }, { i := 15 }, { i := 16 }, { i := 21 }, { i := 5, hard := true, cl := [83] }, { i := 11, hard := true, cl := [89] }, { i := 17, hard := true, cl := [95] }, { i := 18 }, { i := 19 }, { i := 20 }, { i := 22, hard := true }, { i := 23 }]),
  (13, [{ i := 0 }, { i := 1 }, { i := 2 }, { i := 3 }, { i := 4 }, { i := 5 }, { i := 6, hard := true, cl := [103, 105] }, { i := 7 }, { i := 8, hard := true }, { i := 9 }])] }
def H_spec_IsBase : Hint := { cuts := [], joins := [], ords := [] }
def H_spec_SafeCtx : Hint := { cuts := [{ id := 3, keep := [0, 1, 5, 6], nils := [(5, 70, 4)] }], joins := [], ords := [(5, [{ i := 0, hard := true }, { i := 1, hard := true }, { i := 2, hard := true }, { i := 3, hard := true }, { i := 4, hard := true }, { i := 5, hard := true, cl := [18] }, { i := 6, hard := true }, { i := 7, hard := true }, { i := 8, hard := true }, { i := 9, hard := true }, { i := 10, hard := true }, { i := 11, hard := true }, { i := 12, hard := true }, { i := 13, hard := true }, { i := 14, hard := true }, { i := 15, hard := true }, { i := 16, hard := true }, { i := 17, hard := true }, { i := 18, hard := true }, { i := 19, hard := true }, { i := 20, hard := true }, { i := 21, hard := true }, { i := 22, hard := true }, { i := 23, hard := true }, { i := 24, hard := true }, { i := 25, hard := true }]),
  (6, [{ i := 0 }, { i := 1 }, { i := 2 }, { i := 3 }, { i := 4 }, { i := 5 }, { i := 6 }, { i := 7 }, { i := 8 }, { i := 9 }, { i := 10 }, { i := 12 }, { i := 13 }, { i := 14 }, { i := 15 }, { i := 16 }, { i := 11, hard := true, cl := [50] }, { i := 17 }, { i := 18 }, { i := 19, hard := true }, { i := 20, hard := true }])] }
def H_spec_l3Code : Hint := { cuts := [], joins := [], ords := [(1, [{ i := 0, hard := true }, { i := 1, hard := true, cl := [3] }, { i := 2, hard := true }, { i := 3, hard := true }, { i := 4, hard := true }])] }
def H_spec_l9Stage : Hint := { cuts := [], joins := [], ords := [(3, [{ i := 0 }, { i := 1 }, { i := 2 }, { i := 3 }, { i := 4 }, { i := 5 }, { i := 6 }, { i := 12 }, { i := 7, hard := true, cl := [22] }, { i := 8, hard := true, cl := [21] }, { i := 9 }, { i := 10 }, { i := 11 }, { i := 13, hard := true }, { i := 14 }]),
  (7, [{ i := 0, hard := true }, { i := 1, hard := true, cl := [36] }, { i := 2, hard := true }, { i := 3, hard := true }]),
  (9, [{ i := 0 }, { i := 2 }, { i := 1, hard := true, cl := [42] }, { i := 3, hard := true, cl := [44] }, { i := 4, hard := true }, { i := 5 }]),
  (11, [{ i := 0, hard := true }, { i := 1, hard := true }, { i := 2, hard := true }, { i := 3, hard := true }, { i := 4, hard := true, cl := [53] }, { i := 5, hard := true }, { i := 6, hard := true }])] }
def H_spec_l9Op : Hint := { cuts := [{ id := 5, keep := [0, 1, 4, 6, 7] }], joins := [], ords := [] }
def H_spec_l9Form : Hint := { cuts := [], joins := [], ords := [(6, [{ i := 0 }, { i := 1 }, { i := 2 }, { i := 3 }, { i := 4 }, { i := 5 }, { i := 6 }, { i := 7 }, { i := 8 }, { i := 9 }, { i := 10 }, { i := 11 }, { i := 12 }, { i := 13 }, { i := 14 }, { i := 15, hard := true, cl := [34, 37] }, { i := 16 }, { i := 17, hard := true }, { i := 18 }]),
  (7, [{ i := 0 }, { i := 1 }, { i := 2 }, { i := 3 }, { i := 4 }, { i := 5 }, { i := 6 }, { i := 7 }, { i := 8 }, { i := 9 }, { i := 10 }, { i := 11 }, { i := 12 }, { i := 13 }, { i := 14 }, { i := 15, hard := true, cl := [51, 54] }, { i := 16 }]),
  (8, [{ i := 0, hard := true }, { i := 1, hard := true }, { i := 2, hard := true }, { i := 3, hard := true }, { i := 4, hard := true }, { i := 5, hard := true }, { i := 6, hard := true, cl := [62] }, { i := 7, hard := true }, { i := 8, hard := true }])] }
def H_spec_l9Some : Hint := { cuts := [{ id := 24, keep := [0, 2, 4, 6, 13, 14], nils := [(13, 33, 2)] }], joins := [], ords := [(6, [{ i := 0, hard := true }, { i := 1, hard := true }, { i := 2, hard := true }, { i := 3, hard := true }, { i := 4, hard := true }, { i := 5, hard := true, cl := [43] }, { i := 6, hard := true }, { i := 7, hard := true }]),
  (14, [{ i := 0, hard := true }, { i := 1, hard := true }, { i := 2, hard := true }, { i := 3, hard := true, cl := [57] }, { i := 4, hard := true }, { i := 5, hard := true }, { i := 6, hard := true }, { i := 7, hard := true }, { i := 8, hard := true }, { i := 9, hard := true }]),
  (20, [{ i := 0, hard := true }, { i := 1, hard := true }, { i := 2, hard := true }, { i := 3, hard := true, cl := [71] }, { i := 4, hard := true }, { i := 5, hard := true }, { i := 6, hard := true }, { i := 7, hard := true }, { i := 8, hard := true }, { i := 9, hard := true }]),
  (26, [{ i := 0, hard := true }, { i := 1, hard := true }, { i := 2, hard := true }, { i := 3, hard := true }, { i := 4, hard := true }, { i := 5, hard := true }, { i := 6, hard := true }, { i := 7, hard := true, cl := [92] }, { i := 8, hard := true }, { i := 9, hard := true }, { i := 10, hard := true }, { i := 11, hard := true }, { i := 12, hard := true }, { i := 13, hard := true }]),
  (30, [{ i := 0, hard := true }, { i := 1, hard := true }, { i := 2, hard := true, cl := [105] }, { i := 3, hard := true }, { i := 4, hard := true }, { i := 5, hard := true }, { i := 6, hard := true }, { i := 7, hard := true }, { i := 8, hard := true }])] }
def H_spec_l9Type : Hint := { cuts := [], joins := [], ords := [(1, [{ i := 0, hard := true }, { i := 1, hard := true }, { i := 2, hard := true }, { i := 3, hard := true, cl := [12] }, { i := 4, hard := true }, { i := 5, hard := true }, { i := 6, hard := true }, { i := 7, hard := true }, { i := 8, hard := true }, { i := 9, hard := true }]),
  (2, [{ i := 0, hard := true }, { i := 1, hard := true }, { i := 2, hard := true }, { i := 3, hard := true }, { i := 4, hard := true, cl := [20] }, { i := 5, hard := true }, { i := 6, hard := true }])] }
def L_spec_IsName_2 (Q : QT [.bool]) (N0 : Nat) (s0 : ByteArray) (n3 : Int) (N : Nat) : Prop := AT prog 69 [.bool] Q N0 .ord (loopAt prog 69 2) ⟨[.str s0, .any, .any, .int .i64 n3, .any, .any, .any, .any, .any, .any, .any, .any, .any, .any, .any, .any, .any, .any, .any, .any, .any, .any, .any, .any, .any, .any, .any, .any, .any, .any, .any, .any, .any, .any, .any, .any, .any, .any, .any, .any, .any, .any, .any, .any, .any, .any, .any, .any, .any, .any, .any, .any, .any, .any, .any, .any, .any, .any, .any, .any, .any, .any], [], N, none⟩
def L_spec_l3Left_3 (Q : QT [.int .i64]) (N0 : Nat) (n1 : Int) (n5 : Int) (y0 : D) (N : Nat) : Prop := AT prog 99 [.int .i64] Q N0 .ord (loopAt prog 99 3) ⟨[.any, .int .i64 n1, .pb 0 0 0 0, .any, .any, .int .i64 n5, .any, .any, .any, .any, .any, .any, .any, .any, .any, .any, .any, .any, .any, .any, .any, .any, .any, .any, .any, .any, .any], [.vd y0 2], N, none⟩
def L_spec_DepthOfType_3 (Q : QT [.int .i64]) (N0 : Nat) (n3 : Int) (n4 : Int) (y0 : D) (N : Nat) : Prop := AT prog 100 [.int .i64] Q N0 .ord (loopAt prog 100 3) ⟨[.any, .pb 0 0 0 0, .any, .int .i64 n3, .int .i64 n4, .any, .any, .any, .any, .any, .any, .any, .any, .any, .any, .any, .any, .any, .any, .any, .any, .any], [.vd y0 2], N, none⟩
def L_spec_l3Form_2 (Q : QT [.bool]) (N0 : Nat) (n3 : Int) (y0 : D) (N : Nat) : Prop := AT prog 101 [.bool] Q N0 .ord (loopAt prog 101 2) ⟨[.any, .pb 0 0 0 0, .any, .int .i64 n3, .any, .any, .any, .any, .any, .any, .any, .any, .any, .any, .any, .any, .any, .any, .any, .any, .any, .any, .any, .any, .any, .any, .any, .any, .any, .any, .any, .any, .any, .any, .any, .any, .any, .any, .any], [.vd y0 2], N, none⟩
def L_spec_IsTerm_2 (Q : QT [.bool]) (N0 : Nat) (n3 : Int) (y0 : D) (N : Nat) : Prop := AT prog 72 [.bool] Q N0 .ord (loopAt prog 72 2) ⟨[.any, .pb 0 0 0 0, .any, .int .i64 n3, .any, .any, .any, .any, .any, .any, .any, .any, .any, .any, .any, .any, .any, .any, .any, .any, .any, .any, .any, .any, .any, .any, .any, .any], [.vd y0 9], N, none⟩
def L_spec_l9Last_2 (Q : QT [.int .i64]) (N0 : Nat) (a0 : Option Addr) (e0 : List D) (c0 : Nat) (s1 : ByteArray) (n5 : Int) (N : Nat) : Prop := AT prog 105 [.int .i64] Q N0 .ord (loopAt prog 105 2) ⟨[.sv a0 4 e0 c0, .str s1, .any, .any, .any, .int .i64 n5, .any, .any, .any, .any, .any, .any, .any, .any, .any, .any, .any, .any, .any, .any, .any], [], N, none⟩
def L_spec_l3Copy_3 (Q : QT [.ag 2]) (N0 : Nat) (n4 : Int) (y0 : D) (n1_0 : Int) (a1_1 : Option Addr) (e1_1 : List D) (c1_1 : Nat) (n2_0 : Int) (a2_1 : Option Addr) (e2_1 : List D) (c2_1 : Nat) (N : Nat) : Prop := AT prog 106 [.ag 2] Q N0 .ord (loopAt prog 106 3) ⟨[.any, .pb 0 0 0 0, .pb 1 0 0 0, .pb 2 0 0 0, .int .i64 n4, .any, .any, .any, .any, .any, .any, .any, .any, .any, .any, .any, .any, .any, .any, .any, .any, .any, .any, .any, .any, .any, .any], [.vd y0 2, .var [.int .i64 n1_0, .sv a1_1 2 e1_1 c1_1], .var [.int .i64 n2_0, .sv a2_1 2 e2_1 c2_1]], N, none⟩
def L_spec_EqualType_4 (Q : QT [.bool]) (N0 : Nat) (n5 : Int) (y0 : D) (y1 : D) (N : Nat) : Prop := AT prog 140 [.bool] Q N0 .ord (loopAt prog 140 4) ⟨[.any, .any, .pb 0 0 0 0, .pb 1 0 0 0, .any, .int .i64 n5, .any, .any, .any, .any, .any, .any, .any, .any, .any, .any, .any, .any, .any, .any, .any, .any, .any, .any, .any, .any, .any, .any, .any, .any, .any, .any, .any, .any, .any, .any, .any, .any, .any], [.vd y0 2, .vd y1 2], N, none⟩
def L_spec_SafeCtx_3 (Q : QT [.sl 4]) (N0 : Nat) (a0 : Option Addr) (e0 : List D) (c0 : Nat) (n1 : Int) (m5 : Nat) (c5 : Nat) (n6 : Int) (r0 : List D) (q0 : Nat) (N : Nat) : Prop := AT prog 141 [.sl 4] Q N0 .ord (loopAt prog 141 3) ⟨[.sv a0 4 e0 c0, .int .i64 n1, .any, .any, .any, .sb 0 4 0 m5 c5, .int .i64 n6, .any, .any, .any, .any, .any, .any, .any, .any, .any, .any, .any, .any, .any, .any, .any, .any, .any, .any, .any, .any, .any, .any, .any, .any, .any, .any, .any, .any, .any, .any, .any, .any, .any, .any, .any, .any, .any, .any, .any, .any, .any, .any, .any, .any, .any, .any, .any, .any, .any, .any, .any, .any, .any, .any], [.arr 70 4 r0 q0], N, none⟩
def L_spec_l9Op_5 (Q : QT [.ag 2, .bool]) (N0 : Nat) (s0 : ByteArray) (a1 : Option Addr) (e1 : List D) (c1 : Nat) (n6 : Int) (n7 : Int) (n0_0 : Int) (a0_1 : Option Addr) (e0_1 : List D) (c0_1 : Nat) (N : Nat) : Prop := AT prog 143 [.ag 2, .bool] Q N0 .ord (loopAt prog 143 5) ⟨[.str s0, .sv a1 2 e1 c1, .any, .any, .pb 0 0 0 0, .any, .int .i64 n6, .int .i64 n7, .any, .any, .any, .any, .any, .any, .any, .any, .any, .any, .any, .any, .any, .any, .any, .any, .any, .any, .any, .any, .any, .any, .any, .any, .any, .any, .any, .any, .any, .any, .any, .any, .any, .any, .any, .any], [.var [.int .i64 n0_0, .sv a0_1 2 e0_1 c0_1]], N, none⟩
def L_spec_l9Some_24 (Q : QT [.ag 2, .bool]) (N0 : Nat) (a0 : Option Addr) (e0 : List D) (c0 : Nat) (n2 : Int) (m13 : Nat) (c13 : Nat) (n14 : Int) (y0 : D) (n1_0 : Int) (a1_1 : Option Addr) (e1_1 : List D) (c1_1 : Nat) (r2 : List D) (q2 : Nat) (N : Nat) : Prop := AT prog 74 [.ag 2, .bool] Q N0 .ord (loopAt prog 74 24) ⟨[.sv a0 4 e0 c0, .any, .int .i64 n2, .any, .pb 0 0 0 0, .any, .pb 1 0 0 0, .any, .any, .any, .any, .any, .any, .sb 2 2 0 m13 c13, .int .i64 n14, .any, .any, .any, .any, .any, .any, .any, .any, .any, .any, .any, .any, .any, .any, .any, .any, .any, .any, .any, .any, .any, .any, .any, .any, .any, .any, .any, .any, .any, .any, .any, .any, .any, .any, .any, .any, .any, .any, .any, .any, .any, .any, .any, .any, .any, .any, .any, .any, .any, .any, .any, .any, .any, .any, .any, .any, .any, .any, .any, .any, .any, .any, .any, .any, .any, .any, .any, .any, .any, .any, .any, .any, .any, .any, .any, .any, .any, .any, .any, .any, .any, .any, .any, .any, .any, .any, .any, .any, .any, .any, .any, .any, .any, .any, .any, .any, .any], [.vd y0 9, .var [.int .i64 n1_0, .sv a1_1 2 e1_1 c1_1], .arr 33 2 r2 q2], N, none⟩
def L_spec_l3Copy_3_v1 (Q : QT [.ag 2]) (N0 : Nat) (n4 : Int) (y0 : D) (n1_0 : Int) (a1_1 : Option Addr) (e1_1 : List D) (c1_1 : Nat) (n2_0 : Int) (m2_1 : Nat) (c2_1 : Nat) (r3 : List D) (q3 : Nat) (N : Nat) : Prop := AT prog 106 [.ag 2] Q N0 .ord (loopAt prog 106 3) ⟨[.any, .pb 0 0 0 0, .pb 1 0 0 0, .pb 2 0 0 0, .int .i64 n4, .any, .any, .any, .any, .any, .any, .any, .any, .any, .any, .any, .any, .any, .any, .any, .any, .any, .any, .any, .any, .any, .any], [.vd y0 2, .var [.int .i64 n1_0, .sv a1_1 2 e1_1 c1_1], .var [.int .i64 n2_0, .sb 3 2 0 m2_1 c2_1], .arr 33 2 r3 q3], N, none⟩
theorem w_spec_l1In (N : Nat) (n0 : Int) (n1 : Int) (n2 : Int) (Q : QT [.bool]) (h :
(Br (decide ((n0 ≥ n1)))
(∀ (N_1 : Nat),
((N ≤ N_1) →
(Q (decide ((n0 ≤ n2))) N_1)))
(∀ (N_2 : Nat),
((N ≤ N_2) →
(Q false N_2))))) : ACalls prog 71 [.bool] [PV.int .i64 n0, PV.int .i64 n1, PV.int .i64 n2] N Q :=
  entryE (sh := sh) (H := H_spec_l1In) (fuel := 400) (by kernel_rfl) (by kernel_rfl) (by kernel_rfl) h
theorem w_spec_IsName (N : Nat) (s0 : ByteArray) (Q : QT [.bool]) (h :
(L_spec_IsName_2 Q N s0 (0 : Int) N)) : ACalls prog 69 [.bool] [PV.str s0] N Q :=
  entryE (sh := sh) (H := H_spec_IsName) (fuel := 400) (by kernel_rfl) (by kernel_rfl) (by kernel_rfl) h
theorem w_spec_l3Left (N : Nat) (x0 : D) (n1 : Int) (Q : QT [.int .i64]) (h :
((Bel N x0) →
(L_spec_l3Left_3 Q N (IntKind.i64.wrap (n1 - (1 : Int) : Int)) (0 : Int) x0 N))) : ACalls prog 99 [.int .i64] [PV.dg 2 x0, PV.int .i64 n1] N Q :=
  entryE (sh := sh) (H := H_spec_l3Left) (fuel := 400) (by kernel_rfl) (by kernel_rfl) (by kernel_rfl) h
theorem w_spec_l1Max (N : Nat) (n0 : Int) (n1 : Int) (Q : QT [.int .i64]) (h :
(Br (decide ((n0 > n1)))
(∀ (N_1 : Nat),
((N ≤ N_1) →
(Q n0 N_1)))
(∀ (N_2 : Nat),
((N ≤ N_2) →
(Q n1 N_2))))) : ACalls prog 130 [.int .i64] [PV.int .i64 n0, PV.int .i64 n1] N Q :=
  entryE (sh := sh) (H := H_spec_l1Max) (fuel := 400) (by kernel_rfl) (by kernel_rfl) (by kernel_rfl) h
theorem w_spec_DepthOfType (N : Nat) (x0 : D) (Q : QT [.int .i64]) (h :
((Bel N x0) →
(L_spec_DepthOfType_3 Q N (0 : Int) (0 : Int) x0 N))) : ACalls prog 100 [.int .i64] [PV.dg 2 x0] N Q :=
  entryE (sh := sh) (H := H_spec_DepthOfType) (fuel := 400) (by kernel_rfl) (by kernel_rfl) (by kernel_rfl) h
theorem w_spec_l3Form (N : Nat) (x0 : D) (Q : QT [.bool]) (h :
((Bel N x0) →
(L_spec_l3Form_2 Q N (0 : Int) x0 N))) : ACalls prog 101 [.bool] [PV.dg 2 x0] N Q :=
  entryE (sh := sh) (H := H_spec_l3Form) (fuel := 400) (by kernel_rfl) (by kernel_rfl) (by kernel_rfl) h
theorem w_spec_IsValidType (N : Nat) (x0 : D) (Q : QT [.bool]) (h :
((Bel N x0) →
(∀ (N_1 : Nat),
((N ≤ N_1) →
(ACalls prog 99 [(Sh.int IntKind.i64)] [PV.dg 2 x0, PV.int .i64 (30 : Int)] N_1 (fun (n : Int) => (fun (N_2 : Nat) => 
((N_1 ≤ N_2) →
(Br (decide ((n ≥ (0 : Int))))
(∀ (N_3 : Nat),
((N_2 ≤ N_3) →
(ACalls prog 100 [(Sh.int IntKind.i64)] [PV.dg 2 x0] N_3 (fun (n_1 : Int) => (fun (N_4 : Nat) => 
((N_3 ≤ N_4) →
(Br (decide ((n_1 ≤ (8 : Int))))
(∀ (N_5 : Nat),
((N_4 ≤ N_5) →
(ACalls prog 101 [Sh.bool] [PV.dg 2 x0] N_5 (fun (b : Bool) => (fun (N_6 : Nat) => 
((N_5 ≤ N_6) →
(∀ (N_7 : Nat),
((N_6 ≤ N_7) →
(Q b N_7)))))))))
(∀ (N_8 : Nat),
((N_4 ≤ N_8) →
(Q false N_8))))))))))
(∀ (N_9 : Nat),
((N_2 ≤ N_9) →
(Q false N_9)))))))))))) : ACalls prog 70 [.bool] [PV.dg 2 x0] N Q :=
  entryE (sh := sh) (H := H_spec_IsValidType) (fuel := 400) (by kernel_rfl) (by kernel_rfl) (by kernel_rfl) h
theorem w_spec_l5Zero (N : Nat) (x0 : D) (Q : QT [.bool]) (h :
((Bel N x0) →
(∃ (n : Int),
(((D.cell x0 0) = (D.lit (Value.int IntKind.i64 n))) ∧
(Br (n == (0 : Int))
(∃ (a : Option Addr),
(∃ (es : List D),
(∃ (c : Nat),
(((D.cell x0 1) = (D.sl a 2 es c)) ∧
(∀ (N_1 : Nat),
((N ≤ N_1) →
(Q ((((List.length es) : Nat) : Int) == (0 : Int)) N_1)))))))
(∀ (N_2 : Nat),
((N ≤ N_2) →
(Q false N_2)))))))) : ACalls prog 135 [.bool] [PV.dg 2 x0] N Q :=
  entryE (sh := sh) (H := H_spec_l5Zero) (fuel := 400) (by kernel_rfl) (by kernel_rfl) (by kernel_rfl) h
theorem w_spec_OpArity (N : Nat) (s0 : ByteArray) (Q : QT [.int .i64]) (h :
(Br ((ByteArray.toList s0) == (ByteArray.toList (bytes [43])))
(∀ (N_1 : Nat),
((N ≤ N_1) →
(Q (2 : Int) N_1)))
(Br ((ByteArray.toList s0) == (ByteArray.toList (bytes [45])))
(∀ (N_2 : Nat),
((N ≤ N_2) →
(Q (2 : Int) N_2)))
(Br ((ByteArray.toList s0) == (ByteArray.toList (bytes [42])))
(∀ (N_3 : Nat),
((N ≤ N_3) →
(Q (2 : Int) N_3)))
(Br ((ByteArray.toList s0) == (ByteArray.toList (bytes [61])))
(∀ (N_4 : Nat),
((N ≤ N_4) →
(Q (2 : Int) N_4)))
(Br ((ByteArray.toList s0) == (ByteArray.toList (bytes [60])))
(∀ (N_5 : Nat),
((N ≤ N_5) →
(Q (2 : Int) N_5)))
(Br ((ByteArray.toList s0) == (ByteArray.toList (bytes [38])))
(∀ (N_6 : Nat),
((N ≤ N_6) →
(Q (2 : Int) N_6)))
(Br ((ByteArray.toList s0) == (ByteArray.toList (bytes [124])))
(∀ (N_7 : Nat),
((N ≤ N_7) →
(Q (2 : Int) N_7)))
(Br ((ByteArray.toList s0) == (ByteArray.toList (bytes [33])))
(∀ (N_8 : Nat),
((N ≤ N_8) →
(Q (1 : Int) N_8)))
(∀ (N_9 : Nat),
((N ≤ N_9) →
(Q (0 : Int) N_9)))))))))))) : ACalls prog 137 [.int .i64] [PV.str s0] N Q :=
  entryE (sh := sh) (H := H_spec_OpArity) (fuel := 400) (by kernel_rfl) (by kernel_rfl) (by kernel_rfl) h
theorem w_spec_l5Names (N : Nat) (x0 : D) (Q : QT [.bool]) (h :
((Bel N x0) →
(∃ (n : Int),
(((D.cell x0 0) = (D.lit (Value.int IntKind.i64 n))) ∧
(Br (n == (4 : Int))
(∃ (s : ByteArray),
(((D.cell x0 1) = (D.lit (Value.string s))) ∧
(∀ (N_1 : Nat),
((N ≤ N_1) →
(ACalls prog 137 [(Sh.int IntKind.i64)] [PV.str s] N_1 (fun (n_1 : Int) => (fun (N_2 : Nat) => 
((N_1 ≤ N_2) →
(Br (decide ((n_1 > (0 : Int))))
(∃ (s_1 : ByteArray),
(((D.cell x0 2) = (D.lit (Value.string s_1))) ∧
(∀ (N_3 : Nat),
((N_2 ≤ N_3) →
(Q ((ByteArray.toList s_1) == (ByteArray.toList (bytes []))) N_3)))))
(∀ (N_4 : Nat),
((N_2 ≤ N_4) →
(Q false N_4))))))))))))
(Br (n == (1 : Int))
(∃ (s_2 : ByteArray),
(((D.cell x0 1) = (D.lit (Value.string s_2))) ∧
(∀ (N_5 : Nat),
((N ≤ N_5) →
(ACalls prog 69 [Sh.bool] [PV.str s_2] N_5 (fun (b : Bool) => (fun (N_6 : Nat) => 
((N_5 ≤ N_6) →
(Br b
(∃ (s_3 : ByteArray),
(((D.cell x0 2) = (D.lit (Value.string s_3))) ∧
(∀ (N_7 : Nat),
((N_6 ≤ N_7) →
(Q ((ByteArray.toList s_3) == (ByteArray.toList (bytes []))) N_7)))))
(∀ (N_8 : Nat),
((N_6 ≤ N_8) →
(Q false N_8))))))))))))
(Br (n == (6 : Int))
(∃ (s_4 : ByteArray),
(((D.cell x0 1) = (D.lit (Value.string s_4))) ∧
(∀ (N_9 : Nat),
((N ≤ N_9) →
(ACalls prog 69 [Sh.bool] [PV.str s_4] N_9 (fun (b_1 : Bool) => (fun (N_10 : Nat) => 
((N_9 ≤ N_10) →
(Br b_1
(∃ (s_5 : ByteArray),
(((D.cell x0 2) = (D.lit (Value.string s_5))) ∧
(∀ (N_11 : Nat),
((N_10 ≤ N_11) →
(Q ((ByteArray.toList s_5) == (ByteArray.toList (bytes []))) N_11)))))
(∀ (N_12 : Nat),
((N_10 ≤ N_12) →
(Q false N_12))))))))))))
(Br (n == (8 : Int))
(∃ (s_6 : ByteArray),
(((D.cell x0 1) = (D.lit (Value.string s_6))) ∧
(∀ (N_13 : Nat),
((N ≤ N_13) →
(ACalls prog 69 [Sh.bool] [PV.str s_6] N_13 (fun (b_2 : Bool) => (fun (N_14 : Nat) => 
((N_13 ≤ N_14) →
(Br b_2
(∃ (s_7 : ByteArray),
(((D.cell x0 2) = (D.lit (Value.string s_7))) ∧
(∀ (N_15 : Nat),
((N_14 ≤ N_15) →
(Q ((ByteArray.toList s_7) == (ByteArray.toList (bytes []))) N_15)))))
(∀ (N_16 : Nat),
((N_14 ≤ N_16) →
(Q false N_16))))))))))))
(Br (n == (9 : Int))
(∃ (s_8 : ByteArray),
(((D.cell x0 1) = (D.lit (Value.string s_8))) ∧
(∀ (N_17 : Nat),
((N ≤ N_17) →
(ACalls prog 69 [Sh.bool] [PV.str s_8] N_17 (fun (b_3 : Bool) => (fun (N_18 : Nat) => 
((N_17 ≤ N_18) →
(Br b_3
(∃ (s_9 : ByteArray),
(((D.cell x0 2) = (D.lit (Value.string s_9))) ∧
(∀ (N_19 : Nat),
((N_18 ≤ N_19) →
(ACalls prog 69 [Sh.bool] [PV.str s_9] N_19 (fun (b_4 : Bool) => (fun (N_20 : Nat) => 
((N_19 ≤ N_20) →
(Br b_4
(∃ (s_10 : ByteArray),
(((D.cell x0 1) = (D.lit (Value.string s_10))) ∧
(∃ (s_11 : ByteArray),
(((D.cell x0 2) = (D.lit (Value.string s_11))) ∧
(∀ (N_21 : Nat),
((N_20 ≤ N_21) →
(Q (!((ByteArray.toList s_10) == (ByteArray.toList s_11))) N_21)))))))
(∀ (N_22 : Nat),
((N_20 ≤ N_22) →
(Q false N_22))))))))))))
(∀ (N_23 : Nat),
((N_18 ≤ N_23) →
(Q false N_23))))))))))))
(∃ (s_12 : ByteArray),
(((D.cell x0 1) = (D.lit (Value.string s_12))) ∧
(Br ((ByteArray.toList s_12) == (ByteArray.toList (bytes [])))
(∃ (s_13 : ByteArray),
(((D.cell x0 2) = (D.lit (Value.string s_13))) ∧
(∀ (N_24 : Nat),
((N ≤ N_24) →
(Q ((ByteArray.toList s_13) == (ByteArray.toList (bytes []))) N_24)))))
(∀ (N_25 : Nat),
((N ≤ N_25) →
(Q false N_25))))))))))))))) : ACalls prog 136 [.bool] [PV.dg 9 x0] N Q :=
  entryE (sh := sh) (H := H_spec_l5Names) (fuel := 400) (by kernel_rfl) (by kernel_rfl) (by kernel_rfl) h
theorem w_spec_l5Fields (N : Nat) (x0 : D) (Q : QT [.bool]) (h :
((Bel N x0) → (∃ (n : Int), (((D.cell x0 0) = (D.lit (Value.int IntKind.i64 n))) ∧ (Br (n ==
  (6 : Int)) (∀ (N_1 : Nat), ((N ≤ N_1) → (ACalls prog 70 [Sh.bool] [PV.dg 2 (D.sub x0 4 2)] N_1
  (fun (b : Bool) => (fun (N_2 : Nat) => ((N_1 ≤ N_2) → (Br (! (true == b)) (∀ (N_3 : Nat), ((N_2
  ≤ N_3) → (Q false N_3))) (∃ (n_1 : Int), (((D.cell x0 0) = (D.lit (Value.int IntKind.i64 n_1)))
  ∧ (∀ (N_4 : Nat), ((N_2 ≤ N_4) → (ACalls prog 70 [Sh.bool] [PV.dg 2 (D.sub x0 6 2)] N_4 (fun
  (b_1 : Bool) => (fun (N_5 : Nat) => ((N_4 ≤ N_5) → (Br (! ((n_1 == (9 : Int)) == b_1)) (∀ (N_6
  : Nat), ((N_5 ≤ N_6) → (Q false N_6))) (∃ (n_2 : Int), (((D.cell x0 0) = (D.lit (Value.int IntKind.i64
  n_2))) ∧ (Br (bne n_2 (9 : Int)) (∀ (N_7 : Nat), ((N_5 ≤ N_7) → (ACalls prog 135 [Sh.bool] [PV.dg
  2 (D.sub x0 6 2)] N_7 (fun (b_2 : Bool) => (fun (N_8 : Nat) => ((N_7 ≤ N_8) → (Br (!b_2) (∀
  (N_9 : Nat), ((N_8 ≤ N_9) → (Q false N_9))) (∃ (n_3 : Int), (((D.cell x0 0) = (D.lit (Value.int
  IntKind.i64 n_3))) ∧ (Br (n_3 == (2 : Int)) (∃ (n_4 : Int), (((D.cell x0 3) = (D.lit (Value.int
  IntKind.i64 n_4))) ∧ (∀ (N_10 : Nat), ((N_8 ≤ N_10) → (ACalls prog 71 [Sh.bool] [PV.int .i64
  n_4, PV.int .i64 (0 : Int), PV.int .i64 (10006 : Int)] N_10 (fun (b_3 : Bool) => (fun (N_11
  : Nat) => ((N_10 ≤ N_11) → (Br b_3 (∀ (N_12 : Nat), ((N_11 ≤ N_12) → (ACalls prog 136 [Sh.bool]
  [PV.dg 9 x0] N_12 (fun (b_4 : Bool) => (fun (N_13 : Nat) => ((N_12 ≤ N_13) → (∀ (N_14 : Nat),
  ((N_13 ≤ N_14) → (Q b_4 N_14))))))))) (∀ (N_15 : Nat), ((N_11 ≤ N_15) → (Q false N_15))))))))))))
  (Br (n_3 == (3 : Int)) (∃ (n_5 : Int), (((D.cell x0 3) = (D.lit (Value.int IntKind.i64 n_5)))
  ∧ (∀ (N_16 : Nat), ((N_8 ≤ N_16) → (ACalls prog 71 [Sh.bool] [PV.int .i64 n_5, PV.int .i64 (0
  : Int), PV.int .i64 (1 : Int)] N_16 (fun (b_5 : Bool) => (fun (N_17 : Nat) => ((N_16 ≤ N_17)
  → (Br b_5 (∀ (N_18 : Nat), ((N_17 ≤ N_18) → (ACalls prog 136 [Sh.bool] [PV.dg 9 x0] N_18 (fun
  (b_6 : Bool) => (fun (N_19 : Nat) => ((N_18 ≤ N_19) → (∀ (N_20 : Nat), ((N_19 ≤ N_20) → (Q b_6
  N_20))))))))) (∀ (N_21 : Nat), ((N_17 ≤ N_21) → (Q false N_21)))))))))))) (∃ (n_6 : Int), (((D.cell
  x0 3) = (D.lit (Value.int IntKind.i64 n_6))) ∧ (∀ (N_22 : Nat), ((N_8 ≤ N_22) → (ACalls prog
  71 [Sh.bool] [PV.int .i64 n_6, PV.int .i64 (0 : Int), PV.int .i64 (0 : Int)] N_22 (fun (b_7
  : Bool) => (fun (N_23 : Nat) => ((N_22 ≤ N_23) → (Br b_7 (∀ (N_24 : Nat), ((N_23 ≤ N_24) → (ACalls
  prog 136 [Sh.bool] [PV.dg 9 x0] N_24 (fun (b_8 : Bool) => (fun (N_25 : Nat) => ((N_24 ≤ N_25)
  → (∀ (N_26 : Nat), ((N_25 ≤ N_26) → (Q b_8 N_26))))))))) (∀ (N_27 : Nat), ((N_23 ≤ N_27) → (Q
  false N_27))))))))))))))))))))))) (∃ (n_7 : Int), (((D.cell x0 0) = (D.lit (Value.int IntKind.i64
  n_7))) ∧ (Br (n_7 == (2 : Int)) (∃ (n_8 : Int), (((D.cell x0 3) = (D.lit (Value.int IntKind.i64
  n_8))) ∧ (∀ (N_28 : Nat), ((N_5 ≤ N_28) → (ACalls prog 71 [Sh.bool] [PV.int .i64 n_8, PV.int
  .i64 (0 : Int), PV.int .i64 (10006 : Int)] N_28 (fun (b_9 : Bool) => (fun (N_29 : Nat) => ((N_28
  ≤ N_29) → (Br b_9 (∀ (N_30 : Nat), ((N_29 ≤ N_30) → (ACalls prog 136 [Sh.bool] [PV.dg 9 x0]
  N_30 (fun (b_10 : Bool) => (fun (N_31 : Nat) => ((N_30 ≤ N_31) → (∀ (N_32 : Nat), ((N_31 ≤ N_32)
  → (Q b_10 N_32))))))))) (∀ (N_33 : Nat), ((N_29 ≤ N_33) → (Q false N_33)))))))))))) (Br (n_7
  == (3 : Int)) (∃ (n_9 : Int), (((D.cell x0 3) = (D.lit (Value.int IntKind.i64 n_9))) ∧ (∀ (N_34
  : Nat), ((N_5 ≤ N_34) → (ACalls prog 71 [Sh.bool] [PV.int .i64 n_9, PV.int .i64 (0 : Int), PV.int
  .i64 (1 : Int)] N_34 (fun (b_11 : Bool) => (fun (N_35 : Nat) => ((N_34 ≤ N_35) → (Br b_11 (∀
  (N_36 : Nat), ((N_35 ≤ N_36) → (ACalls prog 136 [Sh.bool] [PV.dg 9 x0] N_36 (fun (b_12 : Bool)
  => (fun (N_37 : Nat) => ((N_36 ≤ N_37) → (∀ (N_38 : Nat), ((N_37 ≤ N_38) → (Q b_12 N_38)))))))))
  (∀ (N_39 : Nat), ((N_35 ≤ N_39) → (Q false N_39)))))))))))) (∃ (n_10 : Int), (((D.cell x0 3)
  = (D.lit (Value.int IntKind.i64 n_10))) ∧ (∀ (N_40 : Nat), ((N_5 ≤ N_40) → (ACalls prog 71 [Sh.bool]
  [PV.int .i64 n_10, PV.int .i64 (0 : Int), PV.int .i64 (0 : Int)] N_40 (fun (b_13 : Bool) =>
  (fun (N_41 : Nat) => ((N_40 ≤ N_41) → (Br b_13 (∀ (N_42 : Nat), ((N_41 ≤ N_42) → (ACalls prog
  136 [Sh.bool] [PV.dg 9 x0] N_42 (fun (b_14 : Bool) => (fun (N_43 : Nat) => ((N_42 ≤ N_43) →
  (∀ (N_44 : Nat), ((N_43 ≤ N_44) → (Q b_14 N_44))))))))) (∀ (N_45 : Nat), ((N_41 ≤ N_45) → (Q
  false N_45))))))))))))))))))))))))))))))))))) (∃ (n_11 : Int), (((D.cell x0 0) = (D.lit (Value.int
  IntKind.i64 n_11))) ∧ (∀ (N_46 : Nat), ((N ≤ N_46) → (ACalls prog 70 [Sh.bool] [PV.dg 2 (D.sub
  x0 4 2)] N_46 (fun (b_15 : Bool) => (fun (N_47 : Nat) => ((N_46 ≤ N_47) → (Br (! ((n_11 == (9
  : Int)) == b_15)) (∀ (N_48 : Nat), ((N_47 ≤ N_48) → (Q false N_48))) (Br (! (n_11 == (9 : Int)))
  (∀ (N_49 : Nat), ((N_47 ≤ N_49) → (ACalls prog 135 [Sh.bool] [PV.dg 2 (D.sub x0 4 2)] N_49 (fun
  (b_16 : Bool) => (fun (N_50 : Nat) => ((N_49 ≤ N_50) → (Br (!b_16) (∀ (N_51 : Nat), ((N_50 ≤
  N_51) → (Q false N_51))) (∃ (n_12 : Int), (((D.cell x0 0) = (D.lit (Value.int IntKind.i64 n_12)))
  ∧ (∀ (N_52 : Nat), ((N_50 ≤ N_52) → (ACalls prog 70 [Sh.bool] [PV.dg 2 (D.sub x0 6 2)] N_52
  (fun (b_17 : Bool) => (fun (N_53 : Nat) => ((N_52 ≤ N_53) → (Br (! ((n_12 == (9 : Int)) == b_17))
  (∀ (N_54 : Nat), ((N_53 ≤ N_54) → (Q false N_54))) (∃ (n_13 : Int), (((D.cell x0 0) = (D.lit
  (Value.int IntKind.i64 n_13))) ∧ (Br (bne n_13 (9 : Int)) (∀ (N_55 : Nat), ((N_53 ≤ N_55) →
  (ACalls prog 135 [Sh.bool] [PV.dg 2 (D.sub x0 6 2)] N_55 (fun (b_18 : Bool) => (fun (N_56 :
  Nat) => ((N_55 ≤ N_56) → (Br (!b_18) (∀ (N_57 : Nat), ((N_56 ≤ N_57) → (Q false N_57))) (∃ (n_14
  : Int), (((D.cell x0 0) = (D.lit (Value.int IntKind.i64 n_14))) ∧ (Br (n_14 == (2 : Int)) (∃
  (n_15 : Int), (((D.cell x0 3) = (D.lit (Value.int IntKind.i64 n_15))) ∧ (∀ (N_58 : Nat), ((N_56
  ≤ N_58) → (ACalls prog 71 [Sh.bool] [PV.int .i64 n_15, PV.int .i64 (0 : Int), PV.int .i64 (10006
  : Int)] N_58 (fun (b_19 : Bool) => (fun (N_59 : Nat) => ((N_58 ≤ N_59) → (Br b_19 (∀ (N_60 :
  Nat), ((N_59 ≤ N_60) → (ACalls prog 136 [Sh.bool] [PV.dg 9 x0] N_60 (fun (b_20 : Bool) => (fun
  (N_61 : Nat) => ((N_60 ≤ N_61) → (∀ (N_62 : Nat), ((N_61 ≤ N_62) → (Q b_20 N_62))))))))) (∀
  (N_63 : Nat), ((N_59 ≤ N_63) → (Q false N_63)))))))))))) (Br (n_14 == (3 : Int)) (∃ (n_16 :
  Int), (((D.cell x0 3) = (D.lit (Value.int IntKind.i64 n_16))) ∧ (∀ (N_64 : Nat), ((N_56 ≤ N_64)
  → (ACalls prog 71 [Sh.bool] [PV.int .i64 n_16, PV.int .i64 (0 : Int), PV.int .i64 (1 : Int)]
  N_64 (fun (b_21 : Bool) => (fun (N_65 : Nat) => ((N_64 ≤ N_65) → (Br b_21 (∀ (N_66 : Nat), ((N_65
  ≤ N_66) → (ACalls prog 136 [Sh.bool] [PV.dg 9 x0] N_66 (fun (b_22 : Bool) => (fun (N_67 : Nat)
  => ((N_66 ≤ N_67) → (∀ (N_68 : Nat), ((N_67 ≤ N_68) → (Q b_22 N_68))))))))) (∀ (N_69 : Nat),
  ((N_65 ≤ N_69) → (Q false N_69)))))))))))) (∃ (n_17 : Int), (((D.cell x0 3) = (D.lit (Value.int
  IntKind.i64 n_17))) ∧ (∀ (N_70 : Nat), ((N_56 ≤ N_70) → (ACalls prog 71 [Sh.bool] [PV.int .i64
  n_17, PV.int .i64 (0 : Int), PV.int .i64 (0 : Int)] N_70 (fun (b_23 : Bool) => (fun (N_71 :
  Nat) => ((N_70 ≤ N_71) → (Br b_23 (∀ (N_72 : Nat), ((N_71 ≤ N_72) → (ACalls prog 136 [Sh.bool]
  [PV.dg 9 x0] N_72 (fun (b_24 : Bool) => (fun (N_73 : Nat) => ((N_72 ≤ N_73) → (∀ (N_74 : Nat),
  ((N_73 ≤ N_74) → (Q b_24 N_74))))))))) (∀ (N_75 : Nat), ((N_71 ≤ N_75) → (Q false N_75)))))))))))))))))))))))
  (∃ (n_18 : Int), (((D.cell x0 0) = (D.lit (Value.int IntKind.i64 n_18))) ∧ (Br (n_18 == (2 :
  Int)) (∃ (n_19 : Int), (((D.cell x0 3) = (D.lit (Value.int IntKind.i64 n_19))) ∧ (∀ (N_76 :
  Nat), ((N_53 ≤ N_76) → (ACalls prog 71 [Sh.bool] [PV.int .i64 n_19, PV.int .i64 (0 : Int), PV.int
  .i64 (10006 : Int)] N_76 (fun (b_25 : Bool) => (fun (N_77 : Nat) => ((N_76 ≤ N_77) → (Br b_25
  (∀ (N_78 : Nat), ((N_77 ≤ N_78) → (ACalls prog 136 [Sh.bool] [PV.dg 9 x0] N_78 (fun (b_26 :
  Bool) => (fun (N_79 : Nat) => ((N_78 ≤ N_79) → (∀ (N_80 : Nat), ((N_79 ≤ N_80) → (Q b_26 N_80)))))))))
  (∀ (N_81 : Nat), ((N_77 ≤ N_81) → (Q false N_81)))))))))))) (Br (n_18 == (3 : Int)) (∃ (n_20
  : Int), (((D.cell x0 3) = (D.lit (Value.int IntKind.i64 n_20))) ∧ (∀ (N_82 : Nat), ((N_53 ≤
  N_82) → (ACalls prog 71 [Sh.bool] [PV.int .i64 n_20, PV.int .i64 (0 : Int), PV.int .i64 (1 :
  Int)] N_82 (fun (b_27 : Bool) => (fun (N_83 : Nat) => ((N_82 ≤ N_83) → (Br b_27 (∀ (N_84 : Nat),
  ((N_83 ≤ N_84) → (ACalls prog 136 [Sh.bool] [PV.dg 9 x0] N_84 (fun (b_28 : Bool) => (fun (N_85
  : Nat) => ((N_84 ≤ N_85) → (∀ (N_86 : Nat), ((N_85 ≤ N_86) → (Q b_28 N_86))))))))) (∀ (N_87
  : Nat), ((N_83 ≤ N_87) → (Q false N_87)))))))))))) (∃ (n_21 : Int), (((D.cell x0 3) = (D.lit
  (Value.int IntKind.i64 n_21))) ∧ (∀ (N_88 : Nat), ((N_53 ≤ N_88) → (ACalls prog 71 [Sh.bool]
  [PV.int .i64 n_21, PV.int .i64 (0 : Int), PV.int .i64 (0 : Int)] N_88 (fun (b_29 : Bool) =>
  (fun (N_89 : Nat) => ((N_88 ≤ N_89) → (Br b_29 (∀ (N_90 : Nat), ((N_89 ≤ N_90) → (ACalls prog
  136 [Sh.bool] [PV.dg 9 x0] N_90 (fun (b_30 : Bool) => (fun (N_91 : Nat) => ((N_90 ≤ N_91) →
  (∀ (N_92 : Nat), ((N_91 ≤ N_92) → (Q b_30 N_92))))))))) (∀ (N_93 : Nat), ((N_89 ≤ N_93) → (Q
  false N_93))))))))))))))))))))))))))))))))))) (∃ (n_22 : Int), (((D.cell x0 0) = (D.lit (Value.int
  IntKind.i64 n_22))) ∧ (∀ (N_94 : Nat), ((N_47 ≤ N_94) → (ACalls prog 70 [Sh.bool] [PV.dg 2 (D.sub
  x0 6 2)] N_94 (fun (b_31 : Bool) => (fun (N_95 : Nat) => ((N_94 ≤ N_95) → (Br (! ((n_22 == (9
  : Int)) == b_31)) (∀ (N_96 : Nat), ((N_95 ≤ N_96) → (Q false N_96))) (∃ (n_23 : Int), (((D.cell
  x0 0) = (D.lit (Value.int IntKind.i64 n_23))) ∧ (Br (bne n_23 (9 : Int)) (∀ (N_97 : Nat), ((N_95
  ≤ N_97) → (ACalls prog 135 [Sh.bool] [PV.dg 2 (D.sub x0 6 2)] N_97 (fun (b_32 : Bool) => (fun
  (N_98 : Nat) => ((N_97 ≤ N_98) → (Br (!b_32) (∀ (N_99 : Nat), ((N_98 ≤ N_99) → (Q false N_99)))
  (∃ (n_24 : Int), (((D.cell x0 0) = (D.lit (Value.int IntKind.i64 n_24))) ∧ (Br (n_24 == (2 :
  Int)) (∃ (n_25 : Int), (((D.cell x0 3) = (D.lit (Value.int IntKind.i64 n_25))) ∧ (∀ (N_100 :
  Nat), ((N_98 ≤ N_100) → (ACalls prog 71 [Sh.bool] [PV.int .i64 n_25, PV.int .i64 (0 : Int),
  PV.int .i64 (10006 : Int)] N_100 (fun (b_33 : Bool) => (fun (N_101 : Nat) => ((N_100 ≤ N_101)
  → (Br b_33 (∀ (N_102 : Nat), ((N_101 ≤ N_102) → (ACalls prog 136 [Sh.bool] [PV.dg 9 x0] N_102
  (fun (b_34 : Bool) => (fun (N_103 : Nat) => ((N_102 ≤ N_103) → (∀ (N_104 : Nat), ((N_103 ≤ N_104)
  → (Q b_34 N_104))))))))) (∀ (N_105 : Nat), ((N_101 ≤ N_105) → (Q false N_105)))))))))))) (Br
  (n_24 == (3 : Int)) (∃ (n_26 : Int), (((D.cell x0 3) = (D.lit (Value.int IntKind.i64 n_26)))
  ∧ (∀ (N_106 : Nat), ((N_98 ≤ N_106) → (ACalls prog 71 [Sh.bool] [PV.int .i64 n_26, PV.int .i64
  (0 : Int), PV.int .i64 (1 : Int)] N_106 (fun (b_35 : Bool) => (fun (N_107 : Nat) => ((N_106
  ≤ N_107) → (Br b_35 (∀ (N_108 : Nat), ((N_107 ≤ N_108) → (ACalls prog 136 [Sh.bool] [PV.dg 9
  x0] N_108 (fun (b_36 : Bool) => (fun (N_109 : Nat) => ((N_108 ≤ N_109) → (∀ (N_110 : Nat), ((N_109
  ≤ N_110) → (Q b_36 N_110))))))))) (∀ (N_111 : Nat), ((N_107 ≤ N_111) → (Q false N_111))))))))))))
  (∃ (n_27 : Int), (((D.cell x0 3) = (D.lit (Value.int IntKind.i64 n_27))) ∧ (∀ (N_112 : Nat),
  ((N_98 ≤ N_112) → (ACalls prog 71 [Sh.bool] [PV.int .i64 n_27, PV.int .i64 (0 : Int), PV.int
  .i64 (0 : Int)] N_112 (fun (b_37 : Bool) => (fun (N_113 : Nat) => ((N_112 ≤ N_113) → (Br b_37
  (∀ (N_114 : Nat), ((N_113 ≤ N_114) → (ACalls prog 136 [Sh.bool] [PV.dg 9 x0] N_114 (fun (b_38
  : Bool) => (fun (N_115 : Nat) => ((N_114 ≤ N_115) → (∀ (N_116 : Nat), ((N_115 ≤ N_116) → (Q
  b_38 N_116))))))))) (∀ (N_117 : Nat), ((N_113 ≤ N_117) → (Q false N_117)))))))))))))))))))))))
  (∃ (n_28 : Int), (((D.cell x0 0) = (D.lit (Value.int IntKind.i64 n_28))) ∧ (Br (n_28 == (2 :
  Int)) (∃ (n_29 : Int), (((D.cell x0 3) = (D.lit (Value.int IntKind.i64 n_29))) ∧ (∀ (N_118 :
  Nat), ((N_95 ≤ N_118) → (ACalls prog 71 [Sh.bool] [PV.int .i64 n_29, PV.int .i64 (0 : Int),
  PV.int .i64 (10006 : Int)] N_118 (fun (b_39 : Bool) => (fun (N_119 : Nat) => ((N_118 ≤ N_119)
  → (Br b_39 (∀ (N_120 : Nat), ((N_119 ≤ N_120) → (ACalls prog 136 [Sh.bool] [PV.dg 9 x0] N_120
  (fun (b_40 : Bool) => (fun (N_121 : Nat) => ((N_120 ≤ N_121) → (∀ (N_122 : Nat), ((N_121 ≤ N_122)
  → (Q b_40 N_122))))))))) (∀ (N_123 : Nat), ((N_119 ≤ N_123) → (Q false N_123)))))))))))) (Br
  (n_28 == (3 : Int)) (∃ (n_30 : Int), (((D.cell x0 3) = (D.lit (Value.int IntKind.i64 n_30)))
  ∧ (∀ (N_124 : Nat), ((N_95 ≤ N_124) → (ACalls prog 71 [Sh.bool] [PV.int .i64 n_30, PV.int .i64
  (0 : Int), PV.int .i64 (1 : Int)] N_124 (fun (b_41 : Bool) => (fun (N_125 : Nat) => ((N_124
  ≤ N_125) → (Br b_41 (∀ (N_126 : Nat), ((N_125 ≤ N_126) → (ACalls prog 136 [Sh.bool] [PV.dg 9
  x0] N_126 (fun (b_42 : Bool) => (fun (N_127 : Nat) => ((N_126 ≤ N_127) → (∀ (N_128 : Nat), ((N_127
  ≤ N_128) → (Q b_42 N_128))))))))) (∀ (N_129 : Nat), ((N_125 ≤ N_129) → (Q false N_129))))))))))))
  (∃ (n_31 : Int), (((D.cell x0 3) = (D.lit (Value.int IntKind.i64 n_31))) ∧ (∀ (N_130 : Nat),
  ((N_95 ≤ N_130) → (ACalls prog 71 [Sh.bool] [PV.int .i64 n_31, PV.int .i64 (0 : Int), PV.int
  .i64 (0 : Int)] N_130 (fun (b_43 : Bool) => (fun (N_131 : Nat) => ((N_130 ≤ N_131) → (Br b_43
  (∀ (N_132 : Nat), ((N_131 ≤ N_132) → (ACalls prog 136 [Sh.bool] [PV.dg 9 x0] N_132 (fun (b_44
  : Bool) => (fun (N_133 : Nat) => ((N_132 ≤ N_133) → (∀ (N_134 : Nat), ((N_133 ≤ N_134) → (Q
  b_44 N_134))))))))) (∀ (N_135 : Nat), ((N_131 ≤ N_135) → (Q false N_135))))))))))))))))))))))))))))))))))))))))))) : ACalls prog 102 [.bool] [PV.dg 9 x0] N Q :=
  entryE (sh := sh) (H := H_spec_l5Fields) (fuel := 400) (by kernel_rfl) (by kernel_rfl) (by kernel_rfl) h
theorem w_spec_l5Arity (N : Nat) (x0 : D) (Q : QT [.int .i64]) (h :
((Bel N x0) →
(∃ (n : Int),
(((D.cell x0 0) = (D.lit (Value.int IntKind.i64 n))) ∧
(Br (n == (1 : Int))
(∀ (N_1 : Nat),
((N ≤ N_1) →
(Q (0 : Int) N_1)))
(Br (n == (2 : Int))
(∀ (N_2 : Nat),
((N ≤ N_2) →
(Q (0 : Int) N_2)))
(Br (n == (3 : Int))
(∀ (N_3 : Nat),
((N ≤ N_3) →
(Q (0 : Int) N_3)))
(Br (n == (4 : Int))
(∃ (s : ByteArray),
(((D.cell x0 1) = (D.lit (Value.string s))) ∧
(∀ (N_4 : Nat),
((N ≤ N_4) →
(ACalls prog 137 [(Sh.int IntKind.i64)] [PV.str s] N_4 (fun (n_1 : Int) => (fun (N_5 : Nat) => 
((N_4 ≤ N_5) →
(∀ (N_6 : Nat),
((N_5 ≤ N_6) →
(Q n_1 N_6)))))))))))
(Br (n == (6 : Int))
(∀ (N_7 : Nat),
((N ≤ N_7) →
(Q (1 : Int) N_7)))
(Br (n == (9 : Int))
(∀ (N_8 : Nat),
((N ≤ N_8) →
(Q (1 : Int) N_8)))
(Br (n == (10 : Int))
(∀ (N_9 : Nat),
((N ≤ N_9) →
(Q (1 : Int) N_9)))
(Br (n == (11 : Int))
(∀ (N_10 : Nat),
((N ≤ N_10) →
(Q (1 : Int) N_10)))
(Br (n == (12 : Int))
(∀ (N_11 : Nat),
((N ≤ N_11) →
(Q (1 : Int) N_11)))
(Br (n == (13 : Int))
(∀ (N_12 : Nat),
((N ≤ N_12) →
(Q (1 : Int) N_12)))
(Br (n == (7 : Int))
(∀ (N_13 : Nat),
((N ≤ N_13) →
(Q (2 : Int) N_13)))
(Br (n == (8 : Int))
(∀ (N_14 : Nat),
((N ≤ N_14) →
(Q (2 : Int) N_14)))
(Br (n == (5 : Int))
(∀ (N_15 : Nat),
((N ≤ N_15) →
(Q (3 : Int) N_15)))
(∀ (N_16 : Nat),
((N ≤ N_16) →
(Q (-1 : Int) N_16)))))))))))))))))))) : ACalls prog 103 [.int .i64] [PV.dg 9 x0] N Q :=
  entryE (sh := sh) (H := H_spec_l5Arity) (fuel := 400) (by kernel_rfl) (by kernel_rfl) (by kernel_rfl) h
theorem w_spec_IsTerm (N : Nat) (x0 : D) (Q : QT [.bool]) (h :
((Bel N x0) →
(L_spec_IsTerm_2 Q N (0 : Int) x0 N))) : ACalls prog 72 [.bool] [PV.dg 9 x0] N Q :=
  entryE (sh := sh) (H := H_spec_IsTerm) (fuel := 400) (by kernel_rfl) (by kernel_rfl) (by kernel_rfl) h
theorem w_spec_l8Next (N : Nat) (x0 : D) (n1 : Int) (Q : QT [.int .i64]) (h :
((Bel N x0) →
(∃ (n : Int),
(((D.cell x0 0) = (D.lit (Value.int IntKind.i64 n))) ∧
(Br (n == (10 : Int))
(∀ (N_1 : Nat),
((N ≤ N_1) →
(Q (IntKind.i64.wrap (n1 + (1 : Int) : Int)) N_1)))
(Br (n == (11 : Int))
(∀ (N_2 : Nat),
((N ≤ N_2) →
(Q (IntKind.i64.wrap (n1 - (1 : Int) : Int)) N_2)))
(∀ (N_3 : Nat),
((N ≤ N_3) →
(Q n1 N_3))))))))) : ACalls prog 104 [.int .i64] [PV.dg 9 x0, PV.int .i64 n1] N Q :=
  entryE (sh := sh) (H := H_spec_l8Next) (fuel := 400) (by kernel_rfl) (by kernel_rfl) (by kernel_rfl) h
theorem w_spec_l9Last (N : Nat) (a0 : Option Addr) (e0 : List D) (c0 : Nat) (s1 : ByteArray) (Q : QT [.int .i64]) (h :
((Bel N (D.sl a0 4 e0 c0)) →
(L_spec_l9Last_2 Q N a0 e0 c0 s1 (IntKind.i64.wrap ((((List.length e0) : Nat) : Int) - (1 : Int) : Int)) N))) : ACalls prog 105 [.int .i64] [PV.sv a0 4 e0 c0, PV.str s1] N Q :=
  entryE (sh := sh) (H := H_spec_l9Last) (fuel := 400) (by kernel_rfl) (by kernel_rfl) (by kernel_rfl) h
theorem w_spec_l3Copy (N : Nat) (x0 : D) (Q : QT [.ag 2]) (h :
((Bel N x0) →
(∃ (n : Int),
(((D.cell x0 0) = (D.lit (Value.int IntKind.i64 n))) ∧
(L_spec_l3Copy_3 Q N (0 : Int) x0 (0 : Int) Option.none [] 0 n Option.none [] 0 N))))) : ACalls prog 106 [.ag 2] [PV.dg 2 x0] N Q :=
  entryE (sh := sh) (H := H_spec_l3Copy) (fuel := 400) (by kernel_rfl) (by kernel_rfl) (by kernel_rfl) h
theorem w_spec_l3Int (N : Nat) (Q : QT [.ag 2]) (h :
(∀ (N_1 : Nat),
((N ≤ N_1) →
(Q (D.ag [(D.lit (Value.int IntKind.i64 (1 : Int))), (D.sl Option.none 2 [] 0)]) N_1)))) : ACalls prog 107 [.ag 2] [] N Q :=
  entryE (sh := sh) (H := H_spec_l3Int) (fuel := 400) (by kernel_rfl) (by kernel_rfl) (by kernel_rfl) h
theorem w_spec_l3Bool (N : Nat) (Q : QT [.ag 2]) (h :
(∀ (N_1 : Nat),
((N ≤ N_1) →
(Q (D.ag [(D.lit (Value.int IntKind.i64 (2 : Int))), (D.sl Option.none 2 [] 0)]) N_1)))) : ACalls prog 108 [.ag 2] [] N Q :=
  entryE (sh := sh) (H := H_spec_l3Bool) (fuel := 400) (by kernel_rfl) (by kernel_rfl) (by kernel_rfl) h
theorem w_spec_l9With (N : Nat) (a0 : Option Addr) (e0 : List D) (c0 : Nat) (s1 : ByteArray) (x2 : D) (n3 : Int) (Q : QT [.sl 4]) (h :
((Bel N (D.sl a0 4 e0 c0)) →
((Bel N x2) →
(((0 = 0) ∧
(0 = 0)) ∧
((apBound [] e0 56) ∧
(∀ (c : Nat),
((((List.length ([] ++ e0)) = (List.length ([] ++ e0))) ∧
(c = c)) ∧
((apBound ([] ++ e0) [(D.ag [(D.lit (Value.string s1)), (D.cell x2 0), (D.cell x2 1), (D.lit (Value.int IntKind.i64 n3))])] 56) ∧
(∀ (c_1 : Nat),
((((List.length (([] ++ e0) ++ [(D.ag [(D.lit (Value.string s1)), (D.cell x2 0), (D.cell x2 1), (D.lit (Value.int IntKind.i64 n3))])])) = (List.length (([] ++ e0) ++ [(D.ag [(D.lit (Value.string s1)), (D.cell x2 0), (D.cell x2 1), (D.lit (Value.int IntKind.i64 n3))])]))) ∧
(c_1 = c_1)) ∧
((((List.length (([] ++ e0) ++ [(D.ag [(D.lit (Value.string s1)), (D.cell x2 0), (D.cell x2 1), (D.lit (Value.int IntKind.i64 n3))])])) = (List.length (([] ++ e0) ++ [(D.ag [(D.lit (Value.string s1)), (D.cell x2 0), (D.cell x2 1), (D.lit (Value.int IntKind.i64 n3))])]))) ∧
(c_1 = c_1)) ∧
(∀ (a : Option Addr),
(∀ (N_1 : Nat),
((N ≤ N_1) →
((Fresh N N_1 a [(D.ag (([] ++ e0) ++ [(D.ag [(D.lit (Value.string s1)), (D.cell x2 0), (D.cell x2 1), (D.lit (Value.int IntKind.i64 n3))])]))]) →
(∀ (N_2 : Nat),
((N_1 ≤ N_2) →
(Q a (([] ++ e0) ++ [(D.ag [(D.lit (Value.string s1)), (D.cell x2 0), (D.cell x2 1), (D.lit (Value.int IntKind.i64 n3))])]) c_1 N_2)))))))))))))))))) : ACalls prog 138 [.sl 4] [PV.sv a0 4 e0 c0, PV.str s1, PV.dg 2 x2, PV.int .i64 n3] N Q :=
  entryE (sh := sh) (H := H_spec_l9With) (fuel := 400) (by kernel_rfl) (by kernel_rfl) (by kernel_rfl) h
theorem w_spec_l3Fun (N : Nat) (x0 : D) (x1 : D) (Q : QT [.ag 2]) (h :
((Bel N x0) →
((Bel N x1) →
(∀ (N_1 : Nat),
((N ≤ N_1) →
(ACalls prog 106 [(Sh.ag 2)] [PV.dg 2 x0] N_1 (fun (x : D) => (fun (N_2 : Nat) => 
((N_1 ≤ N_2) →
((Bel N_2 x) →
(∀ (N_3 : Nat),
((N_2 ≤ N_3) →
(ACalls prog 106 [(Sh.ag 2)] [PV.dg 2 x1] N_3 (fun (x_1 : D) => (fun (N_4 : Nat) => 
((N_3 ≤ N_4) →
((Bel N_4 x_1) →
(((2 = (List.length [x, x_1])) ∧
(2 = 2)) ∧
(((2 = (List.length [x, x_1])) ∧
(2 = 2)) ∧
(((2 = (List.length [x, x_1])) ∧
(2 = 2)) ∧
(∀ (a : Option Addr),
(∀ (N_5 : Nat),
((N_4 ≤ N_5) →
((Fresh N N_5 a [(D.ag [x, x_1])]) →
(∀ (N_6 : Nat),
((N_5 ≤ N_6) →
(Q (D.ag [(D.lit (Value.int IntKind.i64 (3 : Int))), (D.sl a 2 [x, x_1] 2)]) N_6))))))))))))))))))))))))))) : ACalls prog 139 [.ag 2] [PV.dg 2 x0, PV.dg 2 x1] N Q :=
  entryE (sh := sh) (H := H_spec_l3Fun) (fuel := 400) (by kernel_rfl) (by kernel_rfl) (by kernel_rfl) h
theorem w_spec_EqualType (N : Nat) (x0 : D) (x1 : D) (Q : QT [.bool]) (h :
((Bel N x0) →
((Bel N x1) →
(∃ (n : Int),
(((D.cell x0 0) = (D.lit (Value.int IntKind.i64 n))) ∧
(∃ (n_1 : Int),
(((D.cell x1 0) = (D.lit (Value.int IntKind.i64 n_1))) ∧
(Br (bne n n_1)
(∀ (N_1 : Nat),
((N ≤ N_1) →
(Q false N_1)))
(∃ (a : Option Addr),
(∃ (es : List D),
(∃ (c : Nat),
(((D.cell x0 1) = (D.sl a 2 es c)) ∧
(∃ (a_1 : Option Addr),
(∃ (es_1 : List D),
(∃ (c_1 : Nat),
(((D.cell x1 1) = (D.sl a_1 2 es_1 c_1)) ∧
(Br (bne (((List.length es) : Nat) : Int) (((List.length es_1) : Nat) : Int))
(∀ (N_2 : Nat),
((N ≤ N_2) →
(Q false N_2)))
(L_spec_EqualType_4 Q N (0 : Int) x0 x1 N)))))))))))))))))) : ACalls prog 140 [.bool] [PV.dg 2 x0, PV.dg 2 x1] N Q :=
  entryE (sh := sh) (H := H_spec_EqualType) (fuel := 400) (by kernel_rfl) (by kernel_rfl) (by kernel_rfl) h
theorem w_spec_l9Bind (N : Nat) (a0 : Option Addr) (e0 : List D) (c0 : Nat) (x1 : D) (n2 : Int) (Q : QT [.ag 2, .bool]) (h :
((Bel N (D.sl a0 4 e0 c0)) →
((Bel N x1) →
(∃ (n : Int),
(((D.cell x1 0) = (D.lit (Value.int IntKind.i64 n))) ∧
(Br (n == (6 : Int))
(∃ (s : ByteArray),
(((D.cell x1 1) = (D.lit (Value.string s))) ∧
(∃ (a : Option Addr),
(∃ (es : List D),
(∃ (c : Nat),
(((D.cell x1 8) = (D.sl a 9 es c)) ∧
((((0 : Int) ≤ (0 : Int)) ∧
((0 : Int) < (((List.length es) : Nat) : Int))) ∧
(∀ (N_1 : Nat),
((N ≤ N_1) →
(ACalls prog 138 [(Sh.sl 4)] [PV.sv a0 4 e0 c0, PV.str s, PV.dg 2 (D.sub x1 4 2), PV.int .i64 n2] N_1 (fun (a_1 : Option Addr) => (fun (es_1 : List D) => (fun (c_1 : Nat) => (fun (N_2 : Nat) => 
((N_1 ≤ N_2) →
((Bel N_2 (D.sl a_1 4 es_1 c_1)) →
(∀ (N_3 : Nat),
((N_2 ≤ N_3) →
(ACalls prog 38 [(Sh.ag 2), Sh.bool] [PV.sv a_1 4 es_1 c_1, PV.dg 9 (List.getD es 0 Inhabited.default), PV.int .i64 n2] N_3 (fun (x : D) => (fun (b : Bool) => (fun (N_4 : Nat) => 
((N_3 ≤ N_4) →
((Bel N_4 x) →
(∀ (N_5 : Nat),
((N_4 ≤ N_5) →
(ACalls prog 139 [(Sh.ag 2)] [PV.dg 2 (D.sub x1 4 2), PV.dg 2 x] N_5 (fun (x_1 : D) => (fun (N_6 : Nat) => 
((N_5 ≤ N_6) →
((Bel N_6 x_1) →
(∀ (N_7 : Nat),
((N_6 ≤ N_7) →
(Q x_1 b N_7))))))))))))))))))))))))))))))))))
(Br (n == (8 : Int))
(∃ (a_2 : Option Addr),
(∃ (es_2 : List D),
(∃ (c_2 : Nat),
(((D.cell x1 8) = (D.sl a_2 9 es_2 c_2)) ∧
((((0 : Int) ≤ (0 : Int)) ∧
((0 : Int) < (((List.length es_2) : Nat) : Int))) ∧
(∀ (N_8 : Nat),
((N ≤ N_8) →
(ACalls prog 38 [(Sh.ag 2), Sh.bool] [PV.sv a0 4 e0 c0, PV.dg 9 (List.getD es_2 0 Inhabited.default), PV.int .i64 n2] N_8 (fun (x_2 : D) => (fun (b_1 : Bool) => (fun (N_9 : Nat) => 
((N_8 ≤ N_9) →
((Bel N_9 x_2) →
(Br (!b_1)
(∀ (N_10 : Nat),
((N_9 ≤ N_10) →
(Q (D.ag [(D.lit (Value.int IntKind.i64 (0 : Int))), (D.sl Option.none 2 [] 0)]) false N_10)))
(∃ (s_1 : ByteArray),
(((D.cell x1 1) = (D.lit (Value.string s_1))) ∧
(∃ (a_3 : Option Addr),
(∃ (es_3 : List D),
(∃ (c_3 : Nat),
(((D.cell x1 8) = (D.sl a_3 9 es_3 c_3)) ∧
((((0 : Int) ≤ (1 : Int)) ∧
((1 : Int) < (((List.length es_3) : Nat) : Int))) ∧
(∀ (N_11 : Nat),
((N_9 ≤ N_11) →
(ACalls prog 138 [(Sh.sl 4)] [PV.sv a0 4 e0 c0, PV.str s_1, PV.dg 2 x_2, PV.int .i64 n2] N_11 (fun (a_4 : Option Addr) => (fun (es_4 : List D) => (fun (c_4 : Nat) => (fun (N_12 : Nat) => 
((N_11 ≤ N_12) →
((Bel N_12 (D.sl a_4 4 es_4 c_4)) →
(∀ (N_13 : Nat),
((N_12 ≤ N_13) →
(ACalls prog 38 [(Sh.ag 2), Sh.bool] [PV.sv a_4 4 es_4 c_4, PV.dg 9 (List.getD es_3 1 Inhabited.default), PV.int .i64 n2] N_13 (fun (x_3 : D) => (fun (b_2 : Bool) => (fun (N_14 : Nat) => 
((N_13 ≤ N_14) →
((Bel N_14 x_3) →
(∀ (N_15 : Nat),
((N_14 ≤ N_15) →
(Q x_3 b_2 N_15)))))))))))))))))))))))))))))))))))))))))
(∀ (N_16 : Nat),
((N ≤ N_16) →
(ACalls prog 139 [(Sh.ag 2)] [PV.dg 2 (D.sub x1 4 2), PV.dg 2 (D.sub x1 6 2)] N_16 (fun (x_4 : D) => (fun (N_17 : Nat) => 
((N_16 ≤ N_17) →
((Bel N_17 x_4) →
(∃ (s_2 : ByteArray),
(((D.cell x1 1) = (D.lit (Value.string s_2))) ∧
(∃ (s_3 : ByteArray),
(((D.cell x1 2) = (D.lit (Value.string s_3))) ∧
(∃ (a_5 : Option Addr),
(∃ (es_5 : List D),
(∃ (c_5 : Nat),
(((D.cell x1 8) = (D.sl a_5 9 es_5 c_5)) ∧
((((0 : Int) ≤ (0 : Int)) ∧
((0 : Int) < (((List.length es_5) : Nat) : Int))) ∧
(∀ (N_18 : Nat),
((N_17 ≤ N_18) →
(ACalls prog 138 [(Sh.sl 4)] [PV.sv a0 4 e0 c0, PV.str s_2, PV.dg 2 x_4, PV.int .i64 n2] N_18 (fun (a_6 : Option Addr) => (fun (es_6 : List D) => (fun (c_6 : Nat) => (fun (N_19 : Nat) => 
((N_18 ≤ N_19) →
((Bel N_19 (D.sl a_6 4 es_6 c_6)) →
(∀ (N_20 : Nat),
((N_19 ≤ N_20) →
(ACalls prog 138 [(Sh.sl 4)] [PV.sv a_6 4 es_6 c_6, PV.str s_3, PV.dg 2 (D.sub x1 4 2), PV.int .i64 n2] N_20 (fun (a_7 : Option Addr) => (fun (es_7 : List D) => (fun (c_7 : Nat) => (fun (N_21 : Nat) => 
((N_20 ≤ N_21) →
((Bel N_21 (D.sl a_7 4 es_7 c_7)) →
(∀ (N_22 : Nat),
((N_21 ≤ N_22) →
(ACalls prog 38 [(Sh.ag 2), Sh.bool] [PV.sv a_7 4 es_7 c_7, PV.dg 9 (List.getD es_5 0 Inhabited.default), PV.int .i64 n2] N_22 (fun (x_5 : D) => (fun (b_3 : Bool) => (fun (N_23 : Nat) => 
((N_22 ≤ N_23) →
((Bel N_23 x_5) →
(Br b_3
(∀ (N_24 : Nat),
((N_23 ≤ N_24) →
(ACalls prog 140 [Sh.bool] [PV.dg 2 x_5, PV.dg 2 (D.sub x1 6 2)] N_24 (fun (b_4 : Bool) => (fun (N_25 : Nat) => 
((N_24 ≤ N_25) →
(∀ (N_26 : Nat),
((N_25 ≤ N_26) →
(Q x_4 b_4 N_26)))))))))
(∀ (N_27 : Nat),
((N_23 ≤ N_27) →
(Q x_4 false N_27))))))))))))))))))))))))))))))))))))))))))))))))))))) : ACalls prog 109 [.ag 2, .bool] [PV.sv a0 4 e0 c0, PV.dg 9 x1, PV.int .i64 n2] N Q :=
  entryE (sh := sh) (H := H_spec_l9Bind) (fuel := 400) (by kernel_rfl) (by kernel_rfl) (by kernel_rfl) h
theorem w_spec_IsBase (N : Nat) (x0 : D) (Q : QT [.bool]) (h :
((Bel N x0) →
(∃ (n : Int),
(((D.cell x0 0) = (D.lit (Value.int IntKind.i64 n))) ∧
(Br (n == (1 : Int))
(∃ (a : Option Addr),
(∃ (es : List D),
(∃ (c : Nat),
(((D.cell x0 1) = (D.sl a 2 es c)) ∧
(∀ (N_1 : Nat),
((N ≤ N_1) →
(Q ((((List.length es) : Nat) : Int) == (0 : Int)) N_1)))))))
(∃ (n_1 : Int),
(((D.cell x0 0) = (D.lit (Value.int IntKind.i64 n_1))) ∧
(Br (n_1 == (2 : Int))
(∃ (a_1 : Option Addr),
(∃ (es_1 : List D),
(∃ (c_1 : Nat),
(((D.cell x0 1) = (D.sl a_1 2 es_1 c_1)) ∧
(∀ (N_2 : Nat),
((N ≤ N_2) →
(Q ((((List.length es_1) : Nat) : Int) == (0 : Int)) N_2)))))))
(∀ (N_3 : Nat),
((N ≤ N_3) →
(Q false N_3))))))))))) : ACalls prog 84 [.bool] [PV.dg 2 x0] N Q :=
  entryE (sh := sh) (H := H_spec_IsBase) (fuel := 400) (by kernel_rfl) (by kernel_rfl) (by kernel_rfl) h
theorem w_spec_SafeCtx (N : Nat) (a0 : Option Addr) (e0 : List D) (c0 : Nat) (n1 : Int) (Q : QT [.sl 4]) (h :
((Bel N (D.sl a0 4 e0 c0)) →
(L_spec_SafeCtx_3 Q N a0 e0 c0 n1 0 0 (0 : Int) [] 0 N))) : ACalls prog 141 [.sl 4] [PV.sv a0 4 e0 c0, PV.int .i64 n1] N Q :=
  entryE (sh := sh) (H := H_spec_SafeCtx) (fuel := 400) (by kernel_rfl) (by kernel_rfl) (by kernel_rfl) h
theorem w_spec_l3Code (N : Nat) (x0 : D) (Q : QT [.ag 2]) (h :
((Bel N x0) →
(∀ (N_1 : Nat),
((N ≤ N_1) →
(ACalls prog 106 [(Sh.ag 2)] [PV.dg 2 x0] N_1 (fun (x : D) => (fun (N_2 : Nat) => 
((N_1 ≤ N_2) →
((Bel N_2 x) →
(((1 = (List.length [x])) ∧
(1 = 1)) ∧
(((1 = (List.length [x])) ∧
(1 = 1)) ∧
(((1 = (List.length [x])) ∧
(1 = 1)) ∧
(∀ (a : Option Addr),
(∀ (N_3 : Nat),
((N_2 ≤ N_3) →
((Fresh N N_3 a [(D.ag [x])]) →
(∀ (N_4 : Nat),
((N_3 ≤ N_4) →
(Q (D.ag [(D.lit (Value.int IntKind.i64 (4 : Int))), (D.sl a 2 [x] 1)]) N_4))))))))))))))))))) : ACalls prog 142 [.ag 2] [PV.dg 2 x0] N Q :=
  entryE (sh := sh) (H := H_spec_l3Code) (fuel := 400) (by kernel_rfl) (by kernel_rfl) (by kernel_rfl) h
theorem w_spec_l9Stage (N : Nat) (a0 : Option Addr) (e0 : List D) (c0 : Nat) (x1 : D) (n2 : Int) (Q : QT [.ag 2, .bool]) (h :
((Bel N (D.sl a0 4 e0 c0)) →
((Bel N x1) →
(∃ (n : Int),
(((D.cell x1 0) = (D.lit (Value.int IntKind.i64 n))) ∧
(Br (n == (12 : Int))
(∀ (N_1 : Nat),
((N ≤ N_1) →
(ACalls prog 141 [(Sh.sl 4)] [PV.sv a0 4 e0 c0, PV.int .i64 n2] N_1 (fun (a : Option Addr) => (fun (es : List D) => (fun (c : Nat) => (fun (N_2 : Nat) => 
((N_1 ≤ N_2) →
((Bel N_2 (D.sl a 4 es c)) →
(∃ (a_1 : Option Addr),
(∃ (es_1 : List D),
(∃ (c_1 : Nat),
(((D.cell x1 8) = (D.sl a_1 9 es_1 c_1)) ∧
((((0 : Int) ≤ (0 : Int)) ∧
((0 : Int) < (((List.length es_1) : Nat) : Int))) ∧
(∀ (N_3 : Nat),
((N_2 ≤ N_3) →
(ACalls prog 104 [(Sh.int IntKind.i64)] [PV.dg 9 x1, PV.int .i64 n2] N_3 (fun (n_1 : Int) => (fun (N_4 : Nat) => 
((N_3 ≤ N_4) →
(∀ (N_5 : Nat),
((N_4 ≤ N_5) →
(ACalls prog 38 [(Sh.ag 2), Sh.bool] [PV.sv a 4 es c, PV.dg 9 (List.getD es_1 0 Inhabited.default), PV.int .i64 n_1] N_5 (fun (x : D) => (fun (b : Bool) => (fun (N_6 : Nat) => 
((N_5 ≤ N_6) →
((Bel N_6 x) →
(Br (!b)
(∀ (N_7 : Nat),
((N_6 ≤ N_7) →
(Q (D.ag [(D.lit (Value.int IntKind.i64 (0 : Int))), (D.sl Option.none 2 [] 0)]) false N_7)))
(∃ (n_2 : Int),
(((D.cell x1 0) = (D.lit (Value.int IntKind.i64 n_2))) ∧
(Br (n_2 == (10 : Int))
(∀ (N_8 : Nat),
((N_6 ≤ N_8) →
(ACalls prog 142 [(Sh.ag 2)] [PV.dg 2 x] N_8 (fun (x_1 : D) => (fun (N_9 : Nat) => 
((N_8 ≤ N_9) →
((Bel N_9 x_1) →
(∀ (N_10 : Nat),
((N_9 ≤ N_10) →
(Q x_1 true N_10))))))))))
(∃ (n_3 : Int),
(((D.cell x1 0) = (D.lit (Value.int IntKind.i64 n_3))) ∧
(Br (n_3 == (13 : Int))
(∀ (N_11 : Nat),
((N_6 ≤ N_11) →
(ACalls prog 142 [(Sh.ag 2)] [PV.dg 2 x] N_11 (fun (x_2 : D) => (fun (N_12 : Nat) => 
((N_11 ≤ N_12) →
((Bel N_12 x_2) →
(∀ (N_13 : Nat),
((N_12 ≤ N_13) →
(ACalls prog 84 [Sh.bool] [PV.dg 2 x] N_13 (fun (b_1 : Bool) => (fun (N_14 : Nat) => 
((N_13 ≤ N_14) →
(∀ (N_15 : Nat),
((N_14 ≤ N_15) →
(Q x_2 b_1 N_15))))))))))))))))
(∃ (n_4 : Int),
(((D.cell x 0) = (D.lit (Value.int IntKind.i64 n_4))) ∧
(Br (n_4 == (4 : Int))
(∃ (a_2 : Option Addr),
(∃ (es_2 : List D),
(∃ (c_2 : Nat),
(((D.cell x 1) = (D.sl a_2 2 es_2 c_2)) ∧
((((0 : Int) ≤ (0 : Int)) ∧
((0 : Int) < (((List.length es_2) : Nat) : Int))) ∧
(∀ (N_16 : Nat),
((N_6 ≤ N_16) →
(ACalls prog 106 [(Sh.ag 2)] [PV.dg 2 (List.getD es_2 0 Inhabited.default)] N_16 (fun (x_3 : D) => (fun (N_17 : Nat) => 
((N_16 ≤ N_17) →
((Bel N_17 x_3) →
(∀ (N_18 : Nat),
((N_17 ≤ N_18) →
(Q x_3 true N_18)))))))))))))))
(∀ (N_19 : Nat),
((N_6 ≤ N_19) →
(Q (D.ag [(D.lit (Value.int IntKind.i64 (0 : Int))), (D.sl Option.none 2 [] 0)]) false N_19)))))))))))))))))))))))))))))))))))))))))
(∃ (a_3 : Option Addr),
(∃ (es_3 : List D),
(∃ (c_3 : Nat),
(((D.cell x1 8) = (D.sl a_3 9 es_3 c_3)) ∧
((((0 : Int) ≤ (0 : Int)) ∧
((0 : Int) < (((List.length es_3) : Nat) : Int))) ∧
(∀ (N_20 : Nat),
((N ≤ N_20) →
(ACalls prog 104 [(Sh.int IntKind.i64)] [PV.dg 9 x1, PV.int .i64 n2] N_20 (fun (n_5 : Int) => (fun (N_21 : Nat) => 
((N_20 ≤ N_21) →
(∀ (N_22 : Nat),
((N_21 ≤ N_22) →
(ACalls prog 38 [(Sh.ag 2), Sh.bool] [PV.sv a0 4 e0 c0, PV.dg 9 (List.getD es_3 0 Inhabited.default), PV.int .i64 n_5] N_22 (fun (x_4 : D) => (fun (b_2 : Bool) => (fun (N_23 : Nat) => 
((N_22 ≤ N_23) →
((Bel N_23 x_4) →
(Br (!b_2)
(∀ (N_24 : Nat),
((N_23 ≤ N_24) →
(Q (D.ag [(D.lit (Value.int IntKind.i64 (0 : Int))), (D.sl Option.none 2 [] 0)]) false N_24)))
(∃ (n_6 : Int),
(((D.cell x1 0) = (D.lit (Value.int IntKind.i64 n_6))) ∧
(Br (n_6 == (10 : Int))
(∀ (N_25 : Nat),
((N_23 ≤ N_25) →
(ACalls prog 142 [(Sh.ag 2)] [PV.dg 2 x_4] N_25 (fun (x_5 : D) => (fun (N_26 : Nat) => 
((N_25 ≤ N_26) →
((Bel N_26 x_5) →
(∀ (N_27 : Nat),
((N_26 ≤ N_27) →
(Q x_5 true N_27))))))))))
(∃ (n_7 : Int),
(((D.cell x1 0) = (D.lit (Value.int IntKind.i64 n_7))) ∧
(Br (n_7 == (13 : Int))
(∀ (N_28 : Nat),
((N_23 ≤ N_28) →
(ACalls prog 142 [(Sh.ag 2)] [PV.dg 2 x_4] N_28 (fun (x_6 : D) => (fun (N_29 : Nat) => 
((N_28 ≤ N_29) →
((Bel N_29 x_6) →
(∀ (N_30 : Nat),
((N_29 ≤ N_30) →
(ACalls prog 84 [Sh.bool] [PV.dg 2 x_4] N_30 (fun (b_3 : Bool) => (fun (N_31 : Nat) => 
((N_30 ≤ N_31) →
(∀ (N_32 : Nat),
((N_31 ≤ N_32) →
(Q x_6 b_3 N_32))))))))))))))))
(∃ (n_8 : Int),
(((D.cell x_4 0) = (D.lit (Value.int IntKind.i64 n_8))) ∧
(Br (n_8 == (4 : Int))
(∃ (a_4 : Option Addr),
(∃ (es_4 : List D),
(∃ (c_4 : Nat),
(((D.cell x_4 1) = (D.sl a_4 2 es_4 c_4)) ∧
((((0 : Int) ≤ (0 : Int)) ∧
((0 : Int) < (((List.length es_4) : Nat) : Int))) ∧
(∀ (N_33 : Nat),
((N_23 ≤ N_33) →
(ACalls prog 106 [(Sh.ag 2)] [PV.dg 2 (List.getD es_4 0 Inhabited.default)] N_33 (fun (x_7 : D) => (fun (N_34 : Nat) => 
((N_33 ≤ N_34) →
((Bel N_34 x_7) →
(∀ (N_35 : Nat),
((N_34 ≤ N_35) →
(Q x_7 true N_35)))))))))))))))
(∀ (N_36 : Nat),
((N_23 ≤ N_36) →
(Q (D.ag [(D.lit (Value.int IntKind.i64 (0 : Int))), (D.sl Option.none 2 [] 0)]) false N_36)))))))))))))))))))))))))))))))))))))) : ACalls prog 110 [.ag 2, .bool] [PV.sv a0 4 e0 c0, PV.dg 9 x1, PV.int .i64 n2] N Q :=
  entryE (sh := sh) (H := H_spec_l9Stage) (fuel := 400) (by kernel_rfl) (by kernel_rfl) (by kernel_rfl) h
theorem w_spec_l9Op (N : Nat) (s0 : ByteArray) (a1 : Option Addr) (e1 : List D) (c1 : Nat) (Q : QT [.ag 2, .bool]) (h :
((Bel N (D.sl a1 2 e1 c1)) →
(Br ((ByteArray.toList s0) == (ByteArray.toList (bytes [38])))
(L_spec_l9Op_5 Q N s0 a1 e1 c1 (2 : Int) (0 : Int) (0 : Int) Option.none [] 0 N)
(Br ((ByteArray.toList s0) == (ByteArray.toList (bytes [124])))
(L_spec_l9Op_5 Q N s0 a1 e1 c1 (2 : Int) (0 : Int) (0 : Int) Option.none [] 0 N)
(Br ((ByteArray.toList s0) == (ByteArray.toList (bytes [33])))
(L_spec_l9Op_5 Q N s0 a1 e1 c1 (2 : Int) (0 : Int) (0 : Int) Option.none [] 0 N)
(L_spec_l9Op_5 Q N s0 a1 e1 c1 (1 : Int) (0 : Int) (0 : Int) Option.none [] 0 N)))))) : ACalls prog 143 [.ag 2, .bool] [PV.str s0, PV.sv a1 2 e1 c1] N Q :=
  entryE (sh := sh) (H := H_spec_l9Op) (fuel := 400) (by kernel_rfl) (by kernel_rfl) (by kernel_rfl) h
theorem w_spec_l9Form (N : Nat) (x0 : D) (a1 : Option Addr) (e1 : List D) (c1 : Nat) (Q : QT [.ag 2, .bool]) (h :
((Bel N x0) →
((Bel N (D.sl a1 2 e1 c1)) →
(∃ (n : Int),
(((D.cell x0 0) = (D.lit (Value.int IntKind.i64 n))) ∧
(Br (n == (4 : Int))
(∃ (s : ByteArray),
(((D.cell x0 1) = (D.lit (Value.string s))) ∧
(∀ (N_1 : Nat),
((N ≤ N_1) →
(ACalls prog 143 [(Sh.ag 2), Sh.bool] [PV.str s, PV.sv a1 2 e1 c1] N_1 (fun (x : D) => (fun (b : Bool) => (fun (N_2 : Nat) => 
((N_1 ≤ N_2) →
((Bel N_2 x) →
(∀ (N_3 : Nat),
((N_2 ≤ N_3) →
(Q x b N_3)))))))))))))
(Br (n == (5 : Int))
((((0 : Int) ≤ (1 : Int)) ∧
((1 : Int) < (((List.length e1) : Nat) : Int))) ∧
((((0 : Int) ≤ (0 : Int)) ∧
((0 : Int) < (((List.length e1) : Nat) : Int))) ∧
(∃ (n_1 : Int),
(((if (0 = 0) then (D.cell (List.getD e1 0 Inhabited.default) 0) else (D.sub (List.getD e1 0 Inhabited.default) 0 0)) = (D.lit (Value.int IntKind.i64 n_1))) ∧
(Br (n_1 == (2 : Int))
((((0 : Int) ≤ (1 : Int)) ∧
((1 : Int) < (((List.length e1) : Nat) : Int))) ∧
((((0 : Int) ≤ (2 : Int)) ∧
((2 : Int) < (((List.length e1) : Nat) : Int))) ∧
(∀ (N_4 : Nat),
((N ≤ N_4) →
(ACalls prog 140 [Sh.bool] [PV.dg 2 (List.getD e1 1 Inhabited.default), PV.dg 2 (List.getD e1 2 Inhabited.default)] N_4 (fun (b_1 : Bool) => (fun (N_5 : Nat) => 
((N_4 ≤ N_5) →
(∀ (N_6 : Nat),
((N_5 ≤ N_6) →
(Q (List.getD e1 1 Inhabited.default) b_1 N_6)))))))))))
(∀ (N_7 : Nat),
((N ≤ N_7) →
(Q (List.getD e1 1 Inhabited.default) false N_7))))))))
((((0 : Int) ≤ (0 : Int)) ∧
((0 : Int) < (((List.length e1) : Nat) : Int))) ∧
(∃ (n_2 : Int),
(((if (0 = 0) then (D.cell (List.getD e1 0 Inhabited.default) 0) else (D.sub (List.getD e1 0 Inhabited.default) 0 0)) = (D.lit (Value.int IntKind.i64 n_2))) ∧
(Br (n_2 == (3 : Int))
((((0 : Int) ≤ (0 : Int)) ∧
((0 : Int) < (((List.length e1) : Nat) : Int))) ∧
(∃ (a : Option Addr),
(∃ (es : List D),
(∃ (c : Nat),
(((if (0 = 0) then (D.cell (List.getD e1 0 Inhabited.default) 1) else (D.sub (List.getD e1 0 Inhabited.default) 1 0)) = (D.sl a 2 es c)) ∧
((((0 : Int) ≤ (0 : Int)) ∧
((0 : Int) < (((List.length es) : Nat) : Int))) ∧
((((0 : Int) ≤ (1 : Int)) ∧
((1 : Int) < (((List.length e1) : Nat) : Int))) ∧
(∀ (N_8 : Nat),
((N ≤ N_8) →
(ACalls prog 140 [Sh.bool] [PV.dg 2 (List.getD es 0 Inhabited.default), PV.dg 2 (List.getD e1 1 Inhabited.default)] N_8 (fun (b_2 : Bool) => (fun (N_9 : Nat) => 
((N_8 ≤ N_9) →
(Br b_2
((((0 : Int) ≤ (0 : Int)) ∧
((0 : Int) < (((List.length e1) : Nat) : Int))) ∧
(∃ (a_1 : Option Addr),
(∃ (es_1 : List D),
(∃ (c_1 : Nat),
(((if (0 = 0) then (D.cell (List.getD e1 0 Inhabited.default) 1) else (D.sub (List.getD e1 0 Inhabited.default) 1 0)) = (D.sl a_1 2 es_1 c_1)) ∧
((((0 : Int) ≤ (1 : Int)) ∧
((1 : Int) < (((List.length es_1) : Nat) : Int))) ∧
(∀ (N_10 : Nat),
((N_9 ≤ N_10) →
(ACalls prog 106 [(Sh.ag 2)] [PV.dg 2 (List.getD es_1 1 Inhabited.default)] N_10 (fun (x_1 : D) => (fun (N_11 : Nat) => 
((N_10 ≤ N_11) →
((Bel N_11 x_1) →
(∀ (N_12 : Nat),
((N_11 ≤ N_12) →
(Q x_1 true N_12))))))))))))))))
(∀ (N_13 : Nat),
((N_9 ≤ N_13) →
(Q (D.ag [(D.lit (Value.int IntKind.i64 (0 : Int))), (D.sl Option.none 2 [] 0)]) false N_13)))))))))))))))))
(∀ (N_14 : Nat),
((N ≤ N_14) →
(Q (D.ag [(D.lit (Value.int IntKind.i64 (0 : Int))), (D.sl Option.none 2 [] 0)]) false N_14)))))))))))))) : ACalls prog 111 [.ag 2, .bool] [PV.dg 9 x0, PV.sv a1 2 e1 c1] N Q :=
  entryE (sh := sh) (H := H_spec_l9Form) (fuel := 400) (by kernel_rfl) (by kernel_rfl) (by kernel_rfl) h
theorem w_spec_l9Some (N : Nat) (a0 : Option Addr) (e0 : List D) (c0 : Nat) (x1 : D) (n2 : Int) (Q : QT [.ag 2, .bool]) (h :
((Bel N (D.sl a0 4 e0 c0)) →
((Bel N x1) →
(∃ (n : Int),
(((D.cell x1 0) = (D.lit (Value.int IntKind.i64 n))) ∧
(Br (n == (1 : Int))
(∃ (s : ByteArray),
(((D.cell x1 1) = (D.lit (Value.string s))) ∧
(∀ (N_1 : Nat),
((N ≤ N_1) →
(ACalls prog 105 [(Sh.int IntKind.i64)] [PV.sv a0 4 e0 c0, PV.str s] N_1 (fun (n_1 : Int) => (fun (N_2 : Nat) => 
((N_1 ≤ N_2) →
(Br (decide ((n_1 < (0 : Int))))
(∀ (N_3 : Nat),
((N_2 ≤ N_3) →
(Q (D.ag [(D.lit (Value.int IntKind.i64 (0 : Int))), (D.sl Option.none 2 [] 0)]) false N_3)))
((((0 : Int) ≤ n_1) ∧
(n_1 < (((List.length e0) : Nat) : Int))) ∧
(∃ (n_2 : Int),
(((if (0 = 0) then (D.cell (List.getD e0 (Int.toNat n_1) Inhabited.default) 3) else (D.sub (List.getD e0 (Int.toNat n_1) Inhabited.default) 3 0)) = (D.lit (Value.int IntKind.i64 n_2))) ∧
(Br (bne n_2 n2)
(∀ (N_4 : Nat),
((N_2 ≤ N_4) →
(Q (D.ag [(D.lit (Value.int IntKind.i64 (0 : Int))), (D.sl Option.none 2 [] 0)]) false N_4)))
((((0 : Int) ≤ n_1) ∧
(n_1 < (((List.length e0) : Nat) : Int))) ∧
(∀ (N_5 : Nat),
((N_2 ≤ N_5) →
(ACalls prog 106 [(Sh.ag 2)] [PV.dg 2 (if (2 = 0) then (D.cell (List.getD e0 (Int.toNat n_1) Inhabited.default) 1) else (D.sub (List.getD e0 (Int.toNat n_1) Inhabited.default) 1 2))] N_5 (fun (x : D) => (fun (N_6 : Nat) => 
((N_5 ≤ N_6) →
((Bel N_6 x) →
(∀ (N_7 : Nat),
((N_6 ≤ N_7) →
(Q x true N_7))))))))))))))))))))))))
(Br (n == (2 : Int))
(∀ (N_8 : Nat),
((N ≤ N_8) →
(ACalls prog 107 [(Sh.ag 2)] [] N_8 (fun (x_1 : D) => (fun (N_9 : Nat) => 
((N_8 ≤ N_9) →
((Bel N_9 x_1) →
(∀ (N_10 : Nat),
((N_9 ≤ N_10) →
(Q x_1 true N_10))))))))))
(Br (n == (3 : Int))
(∀ (N_11 : Nat),
((N ≤ N_11) →
(ACalls prog 108 [(Sh.ag 2)] [] N_11 (fun (x_2 : D) => (fun (N_12 : Nat) => 
((N_11 ≤ N_12) →
((Bel N_12 x_2) →
(∀ (N_13 : Nat),
((N_12 ≤ N_13) →
(Q x_2 true N_13))))))))))
(Br (n == (6 : Int))
(∀ (N_14 : Nat),
((N ≤ N_14) →
(ACalls prog 109 [(Sh.ag 2), Sh.bool] [PV.sv a0 4 e0 c0, PV.dg 9 x1, PV.int .i64 n2] N_14 (fun (x_3 : D) => (fun (b : Bool) => (fun (N_15 : Nat) => 
((N_14 ≤ N_15) →
((Bel N_15 x_3) →
(∀ (N_16 : Nat),
((N_15 ≤ N_16) →
(Q x_3 b N_16)))))))))))
(Br (n == (8 : Int))
(∀ (N_17 : Nat),
((N ≤ N_17) →
(ACalls prog 109 [(Sh.ag 2), Sh.bool] [PV.sv a0 4 e0 c0, PV.dg 9 x1, PV.int .i64 n2] N_17 (fun (x_4 : D) => (fun (b_1 : Bool) => (fun (N_18 : Nat) => 
((N_17 ≤ N_18) →
((Bel N_18 x_4) →
(∀ (N_19 : Nat),
((N_18 ≤ N_19) →
(Q x_4 b_1 N_19)))))))))))
(Br (n == (9 : Int))
(∀ (N_20 : Nat),
((N ≤ N_20) →
(ACalls prog 109 [(Sh.ag 2), Sh.bool] [PV.sv a0 4 e0 c0, PV.dg 9 x1, PV.int .i64 n2] N_20 (fun (x_5 : D) => (fun (b_2 : Bool) => (fun (N_21 : Nat) => 
((N_20 ≤ N_21) →
((Bel N_21 x_5) →
(∀ (N_22 : Nat),
((N_21 ≤ N_22) →
(Q x_5 b_2 N_22)))))))))))
(Br (n == (10 : Int))
(∀ (N_23 : Nat),
((N ≤ N_23) →
(ACalls prog 110 [(Sh.ag 2), Sh.bool] [PV.sv a0 4 e0 c0, PV.dg 9 x1, PV.int .i64 n2] N_23 (fun (x_6 : D) => (fun (b_3 : Bool) => (fun (N_24 : Nat) => 
((N_23 ≤ N_24) →
((Bel N_24 x_6) →
(∀ (N_25 : Nat),
((N_24 ≤ N_25) →
(Q x_6 b_3 N_25)))))))))))
(Br (n == (11 : Int))
(∀ (N_26 : Nat),
((N ≤ N_26) →
(ACalls prog 110 [(Sh.ag 2), Sh.bool] [PV.sv a0 4 e0 c0, PV.dg 9 x1, PV.int .i64 n2] N_26 (fun (x_7 : D) => (fun (b_4 : Bool) => (fun (N_27 : Nat) => 
((N_26 ≤ N_27) →
((Bel N_27 x_7) →
(∀ (N_28 : Nat),
((N_27 ≤ N_28) →
(Q x_7 b_4 N_28)))))))))))
(Br (n == (12 : Int))
(∀ (N_29 : Nat),
((N ≤ N_29) →
(ACalls prog 110 [(Sh.ag 2), Sh.bool] [PV.sv a0 4 e0 c0, PV.dg 9 x1, PV.int .i64 n2] N_29 (fun (x_8 : D) => (fun (b_5 : Bool) => (fun (N_30 : Nat) => 
((N_29 ≤ N_30) →
((Bel N_30 x_8) →
(∀ (N_31 : Nat),
((N_30 ≤ N_31) →
(Q x_8 b_5 N_31)))))))))))
(Br (n == (13 : Int))
(∀ (N_32 : Nat),
((N ≤ N_32) →
(ACalls prog 110 [(Sh.ag 2), Sh.bool] [PV.sv a0 4 e0 c0, PV.dg 9 x1, PV.int .i64 n2] N_32 (fun (x_9 : D) => (fun (b_6 : Bool) => (fun (N_33 : Nat) => 
((N_32 ≤ N_33) →
((Bel N_33 x_9) →
(∀ (N_34 : Nat),
((N_33 ≤ N_34) →
(Q x_9 b_6 N_34)))))))))))
(L_spec_l9Some_24 Q N a0 e0 c0 n2 0 0 (0 : Int) x1 (0 : Int) Option.none [] 0 [] 0 N)))))))))))))))) : ACalls prog 74 [.ag 2, .bool] [PV.sv a0 4 e0 c0, PV.dg 9 x1, PV.int .i64 n2] N Q :=
  entryE (sh := sh) (H := H_spec_l9Some) (fuel := 400) (by kernel_rfl) (by kernel_rfl) (by kernel_rfl) h
theorem w_spec_l9Type (N : Nat) (a0 : Option Addr) (e0 : List D) (c0 : Nat) (x1 : D) (n2 : Int) (Q : QT [.ag 2, .bool]) (h :
((Bel N (D.sl a0 4 e0 c0)) →
((Bel N x1) →
(∀ (N_1 : Nat),
((N ≤ N_1) →
(ACalls prog 74 [(Sh.ag 2), Sh.bool] [PV.sv a0 4 e0 c0, PV.dg 9 x1, PV.int .i64 n2] N_1 (fun (x : D) => (fun (b : Bool) => (fun (N_2 : Nat) => 
((N_1 ≤ N_2) →
((Bel N_2 x) →
(Br (!b)
(∀ (N_3 : Nat),
((N_2 ≤ N_3) →
(Q (D.ag [(D.lit (Value.int IntKind.i64 (0 : Int))), (D.sl Option.none 2 [] 0)]) false N_3)))
(∀ (N_4 : Nat),
((N_2 ≤ N_4) →
(ACalls prog 70 [Sh.bool] [PV.dg 2 x] N_4 (fun (b_1 : Bool) => (fun (N_5 : Nat) => 
((N_4 ≤ N_5) →
(Br (!b_1)
(∀ (N_6 : Nat),
((N_5 ≤ N_6) →
(Q (D.ag [(D.lit (Value.int IntKind.i64 (0 : Int))), (D.sl Option.none 2 [] 0)]) false N_6)))
(∀ (N_7 : Nat),
((N_5 ≤ N_7) →
(Q x true N_7)))))))))))))))))))))) : ACalls prog 38 [.ag 2, .bool] [PV.sv a0 4 e0 c0, PV.dg 9 x1, PV.int .i64 n2] N Q :=
  entryE (sh := sh) (H := H_spec_l9Type) (fuel := 400) (by kernel_rfl) (by kernel_rfl) (by kernel_rfl) h
theorem l_spec_IsName_2 (Q : QT [.bool]) (N0 : Nat) (s0 : ByteArray) (n3 : Int) (N : Nat) (h :
(Br (decide ((n3 < (((ByteArray.size s0) : Nat) : Int))))
((((0 : Int) ≤ n3) ∧
(n3 < (((ByteArray.size s0) : Nat) : Int))) ∧
(Br (decide (((((UInt8.toNat (Array.getD (ByteArray.data s0) (Int.toNat n3) (OfNat.ofNat 0))) : Nat) : Int) ≥ (97 : Int))))
((((0 : Int) ≤ n3) ∧
(n3 < (((ByteArray.size s0) : Nat) : Int))) ∧
(Br (!(decide (((((UInt8.toNat (Array.getD (ByteArray.data s0) (Int.toNat n3) (OfNat.ofNat 0))) : Nat) : Int) ≤ (122 : Int)))))
(Br (n3 == (0 : Int))
(∀ (N_1 : Nat),
((N ≤ N_1) →
(Q false N_1)))
((((0 : Int) ≤ n3) ∧
(n3 < (((ByteArray.size s0) : Nat) : Int))) ∧
(Br (decide (((((UInt8.toNat (Array.getD (ByteArray.data s0) (Int.toNat n3) (OfNat.ofNat 0))) : Nat) : Int) < (48 : Int))))
(∀ (N_2 : Nat),
((N ≤ N_2) →
(Q false N_2)))
((((0 : Int) ≤ n3) ∧
(n3 < (((ByteArray.size s0) : Nat) : Int))) ∧
(Br (decide (((((UInt8.toNat (Array.getD (ByteArray.data s0) (Int.toNat n3) (OfNat.ofNat 0))) : Nat) : Int) > (57 : Int))))
(∀ (N_3 : Nat),
((N ≤ N_3) →
(Q false N_3)))
(L_spec_IsName_2 Q N0 s0 (IntKind.i64.wrap (n3 + (1 : Int) : Int)) N))))))
(L_spec_IsName_2 Q N0 s0 (IntKind.i64.wrap (n3 + (1 : Int) : Int)) N)))
(Br (n3 == (0 : Int))
(∀ (N_4 : Nat),
((N ≤ N_4) →
(Q false N_4)))
((((0 : Int) ≤ n3) ∧
(n3 < (((ByteArray.size s0) : Nat) : Int))) ∧
(Br (decide (((((UInt8.toNat (Array.getD (ByteArray.data s0) (Int.toNat n3) (OfNat.ofNat 0))) : Nat) : Int) < (48 : Int))))
(∀ (N_5 : Nat),
((N ≤ N_5) →
(Q false N_5)))
((((0 : Int) ≤ n3) ∧
(n3 < (((ByteArray.size s0) : Nat) : Int))) ∧
(Br (decide (((((UInt8.toNat (Array.getD (ByteArray.data s0) (Int.toNat n3) (OfNat.ofNat 0))) : Nat) : Int) > (57 : Int))))
(∀ (N_6 : Nat),
((N ≤ N_6) →
(Q false N_6)))
(L_spec_IsName_2 Q N0 s0 (IntKind.i64.wrap (n3 + (1 : Int) : Int)) N))))))))
(∀ (N_7 : Nat),
((N ≤ N_7) →
(ACalls prog 71 [Sh.bool] [PV.int .i64 (((ByteArray.size s0) : Nat) : Int), PV.int .i64 (1 : Int), PV.int .i64 (4 : Int)] N_7 (fun (b : Bool) => (fun (N_8 : Nat) => 
((N_7 ≤ N_8) →
(Br b
(Br (!((ByteArray.toList s0) == (ByteArray.toList (bytes [105, 102]))))
(Br (!((ByteArray.toList s0) == (ByteArray.toList (bytes [108, 101, 116]))))
(Br (!((ByteArray.toList s0) == (ByteArray.toList (bytes [114, 101, 99]))))
(Br (!((ByteArray.toList s0) == (ByteArray.toList (bytes [114, 117, 110]))))
(∀ (N_9 : Nat),
((N_8 ≤ N_9) →
(Q (!((ByteArray.toList s0) == (ByteArray.toList (bytes [108, 105, 102, 116])))) N_9)))
(∀ (N_10 : Nat),
((N_8 ≤ N_10) →
(Q false N_10))))
(∀ (N_11 : Nat),
((N_8 ≤ N_11) →
(Q false N_11))))
(∀ (N_12 : Nat),
((N_8 ≤ N_12) →
(Q false N_12))))
(∀ (N_13 : Nat),
((N_8 ≤ N_13) →
(Q false N_13))))
(∀ (N_14 : Nat),
((N_8 ≤ N_14) →
(Q false N_14)))))))))))) : L_spec_IsName_2 Q N0 s0 n3 N :=
  headE (sh := sh) (H := H_spec_IsName) (fuel := 400) (by kernel_rfl) (by kernel_rfl) h
theorem l_spec_l3Left_3 (Q : QT [.int .i64]) (N0 : Nat) (n1 : Int) (n5 : Int) (y0 : D) (N : Nat) (h :
(∃ (a : Option Addr),
(∃ (es : List D),
(∃ (c : Nat),
(((D.cell y0 1) = (D.sl a 2 es c)) ∧
(Br (decide ((n5 < (((List.length es) : Nat) : Int))))
(Br (decide ((n1 ≥ (0 : Int))))
(∃ (a_1 : Option Addr),
(∃ (es_1 : List D),
(∃ (c_1 : Nat),
(((D.cell y0 1) = (D.sl a_1 2 es_1 c_1)) ∧
((((0 : Int) ≤ n5) ∧
(n5 < (((List.length es_1) : Nat) : Int))) ∧
(∀ (N_1 : Nat),
((N ≤ N_1) →
(ACalls prog 99 [(Sh.int IntKind.i64)] [PV.dg 2 (List.getD es_1 (Int.toNat n5) Inhabited.default), PV.int .i64 n1] N_1 (fun (n : Int) => (fun (N_2 : Nat) => 
((N_1 ≤ N_2) →
(L_spec_l3Left_3 Q N0 n (IntKind.i64.wrap (n5 + (1 : Int) : Int)) y0 N_2))))))))))))
(∀ (N_3 : Nat),
((N ≤ N_3) →
(Q n1 N_3))))
(∀ (N_4 : Nat),
((N ≤ N_4) →
(Q n1 N_4))))))))) : L_spec_l3Left_3 Q N0 n1 n5 y0 N :=
  headE (sh := sh) (H := H_spec_l3Left) (fuel := 400) (by kernel_rfl) (by kernel_rfl) h
theorem l_spec_DepthOfType_3 (Q : QT [.int .i64]) (N0 : Nat) (n3 : Int) (n4 : Int) (y0 : D) (N : Nat) (h :
(∃ (a : Option Addr),
(∃ (es : List D),
(∃ (c : Nat),
(((D.cell y0 1) = (D.sl a 2 es c)) ∧
(Br (decide ((n4 < (((List.length es) : Nat) : Int))))
(∃ (a_1 : Option Addr),
(∃ (es_1 : List D),
(∃ (c_1 : Nat),
(((D.cell y0 1) = (D.sl a_1 2 es_1 c_1)) ∧
((((0 : Int) ≤ n4) ∧
(n4 < (((List.length es_1) : Nat) : Int))) ∧
(∀ (N_1 : Nat),
((N ≤ N_1) →
(ACalls prog 100 [(Sh.int IntKind.i64)] [PV.dg 2 (List.getD es_1 (Int.toNat n4) Inhabited.default)] N_1 (fun (n : Int) => (fun (N_2 : Nat) => 
((N_1 ≤ N_2) →
(∀ (N_3 : Nat),
((N_2 ≤ N_3) →
(ACalls prog 130 [(Sh.int IntKind.i64)] [PV.int .i64 n3, PV.int .i64 n] N_3 (fun (n_1 : Int) => (fun (N_4 : Nat) => 
((N_3 ≤ N_4) →
(L_spec_DepthOfType_3 Q N0 n_1 (IntKind.i64.wrap (n4 + (1 : Int) : Int)) y0 N_4))))))))))))))))))
(∀ (N_5 : Nat),
((N ≤ N_5) →
(Q (IntKind.i64.wrap (n3 + (1 : Int) : Int)) N_5))))))))) : L_spec_DepthOfType_3 Q N0 n3 n4 y0 N :=
  headE (sh := sh) (H := H_spec_DepthOfType) (fuel := 400) (by kernel_rfl) (by kernel_rfl) h
theorem l_spec_l3Form_2 (Q : QT [.bool]) (N0 : Nat) (n3 : Int) (y0 : D) (N : Nat) (h :
(∃ (a : Option Addr),
(∃ (es : List D),
(∃ (c : Nat),
(((D.cell y0 1) = (D.sl a 2 es c)) ∧
(Br (decide ((n3 < (((List.length es) : Nat) : Int))))
(∃ (a_1 : Option Addr),
(∃ (es_1 : List D),
(∃ (c_1 : Nat),
(((D.cell y0 1) = (D.sl a_1 2 es_1 c_1)) ∧
((((0 : Int) ≤ n3) ∧
(n3 < (((List.length es_1) : Nat) : Int))) ∧
(∀ (N_1 : Nat),
((N ≤ N_1) →
(ACalls prog 101 [Sh.bool] [PV.dg 2 (List.getD es_1 (Int.toNat n3) Inhabited.default)] N_1 (fun (b : Bool) => (fun (N_2 : Nat) => 
((N_1 ≤ N_2) →
(Br (!b)
(∀ (N_3 : Nat),
((N_2 ≤ N_3) →
(Q false N_3)))
(L_spec_l3Form_2 Q N0 (IntKind.i64.wrap (n3 + (1 : Int) : Int)) y0 N_2)))))))))))))
(∃ (n : Int),
(((D.cell y0 0) = (D.lit (Value.int IntKind.i64 n))) ∧
(Br (n == (1 : Int))
(∃ (a_2 : Option Addr),
(∃ (es_2 : List D),
(∃ (c_2 : Nat),
(((D.cell y0 1) = (D.sl a_2 2 es_2 c_2)) ∧
(∀ (N_4 : Nat),
((N ≤ N_4) →
(Q ((((List.length es_2) : Nat) : Int) == (0 : Int)) N_4)))))))
(Br (n == (2 : Int))
(∃ (a_3 : Option Addr),
(∃ (es_3 : List D),
(∃ (c_3 : Nat),
(((D.cell y0 1) = (D.sl a_3 2 es_3 c_3)) ∧
(∀ (N_5 : Nat),
((N ≤ N_5) →
(Q ((((List.length es_3) : Nat) : Int) == (0 : Int)) N_5)))))))
(Br (n == (3 : Int))
(∃ (a_4 : Option Addr),
(∃ (es_4 : List D),
(∃ (c_4 : Nat),
(((D.cell y0 1) = (D.sl a_4 2 es_4 c_4)) ∧
(∀ (N_6 : Nat),
((N ≤ N_6) →
(Q ((((List.length es_4) : Nat) : Int) == (2 : Int)) N_6)))))))
(Br (n == (4 : Int))
(∃ (a_5 : Option Addr),
(∃ (es_5 : List D),
(∃ (c_5 : Nat),
(((D.cell y0 1) = (D.sl a_5 2 es_5 c_5)) ∧
(∀ (N_7 : Nat),
((N ≤ N_7) →
(Q ((((List.length es_5) : Nat) : Int) == (1 : Int)) N_7)))))))
(∀ (N_8 : Nat),
((N ≤ N_8) →
(Q false N_8))))))))))))))) : L_spec_l3Form_2 Q N0 n3 y0 N :=
  headE (sh := sh) (H := H_spec_l3Form) (fuel := 400) (by kernel_rfl) (by kernel_rfl) h
theorem l_spec_IsTerm_2 (Q : QT [.bool]) (N0 : Nat) (n3 : Int) (y0 : D) (N : Nat) (h :
(∃ (a : Option Addr),
(∃ (es : List D),
(∃ (c : Nat),
(((D.cell y0 8) = (D.sl a 9 es c)) ∧
(Br (decide ((n3 < (((List.length es) : Nat) : Int))))
(∃ (a_1 : Option Addr),
(∃ (es_1 : List D),
(∃ (c_1 : Nat),
(((D.cell y0 8) = (D.sl a_1 9 es_1 c_1)) ∧
((((0 : Int) ≤ n3) ∧
(n3 < (((List.length es_1) : Nat) : Int))) ∧
(∀ (N_1 : Nat),
((N ≤ N_1) →
(ACalls prog 72 [Sh.bool] [PV.dg 9 (List.getD es_1 (Int.toNat n3) Inhabited.default)] N_1 (fun (b : Bool) => (fun (N_2 : Nat) => 
((N_1 ≤ N_2) →
(Br (!b)
(∀ (N_3 : Nat),
((N_2 ≤ N_3) →
(Q false N_3)))
(L_spec_IsTerm_2 Q N0 (IntKind.i64.wrap (n3 + (1 : Int) : Int)) y0 N_2)))))))))))))
(∀ (N_4 : Nat),
((N ≤ N_4) →
(ACalls prog 102 [Sh.bool] [PV.dg 9 y0] N_4 (fun (b_1 : Bool) => (fun (N_5 : Nat) => 
((N_4 ≤ N_5) →
(Br b_1
(∃ (a_2 : Option Addr),
(∃ (es_2 : List D),
(∃ (c_2 : Nat),
(((D.cell y0 8) = (D.sl a_2 9 es_2 c_2)) ∧
(∀ (N_6 : Nat),
((N_5 ≤ N_6) →
(ACalls prog 103 [(Sh.int IntKind.i64)] [PV.dg 9 y0] N_6 (fun (n : Int) => (fun (N_7 : Nat) => 
((N_6 ≤ N_7) →
(∀ (N_8 : Nat),
((N_7 ≤ N_8) →
(Q ((((List.length es_2) : Nat) : Int) == n) N_8)))))))))))))
(∀ (N_9 : Nat),
((N_5 ≤ N_9) →
(Q false N_9)))))))))))))))) : L_spec_IsTerm_2 Q N0 n3 y0 N :=
  headE (sh := sh) (H := H_spec_IsTerm) (fuel := 400) (by kernel_rfl) (by kernel_rfl) h
theorem l_spec_l9Last_2 (Q : QT [.int .i64]) (N0 : Nat) (a0 : Option Addr) (e0 : List D) (c0 : Nat) (s1 : ByteArray) (n5 : Int) (N : Nat) (h :
(Br (decide ((n5 ≥ (0 : Int))))
((((0 : Int) ≤ n5) ∧
(n5 < (((List.length e0) : Nat) : Int))) ∧
(∃ (s : ByteArray),
(((if (0 = 0) then (D.cell (List.getD e0 (Int.toNat n5) Inhabited.default) 0) else (D.sub (List.getD e0 (Int.toNat n5) Inhabited.default) 0 0)) = (D.lit (Value.string s))) ∧
(Br ((ByteArray.toList s) == (ByteArray.toList s1))
(∀ (N_1 : Nat),
((N ≤ N_1) →
(Q n5 N_1)))
(L_spec_l9Last_2 Q N0 a0 e0 c0 s1 (IntKind.i64.wrap (n5 - (1 : Int) : Int)) N)))))
(∀ (N_2 : Nat),
((N ≤ N_2) →
(Q (-1 : Int) N_2))))) : L_spec_l9Last_2 Q N0 a0 e0 c0 s1 n5 N :=
  headE (sh := sh) (H := H_spec_l9Last) (fuel := 400) (by kernel_rfl) (by kernel_rfl) h
theorem l_spec_l3Copy_3 (Q : QT [.ag 2]) (N0 : Nat) (n4 : Int) (y0 : D) (n1_0 : Int) (a1_1 : Option Addr) (e1_1 : List D) (c1_1 : Nat) (n2_0 : Int) (a2_1 : Option Addr) (e2_1 : List D) (c2_1 : Nat) (N : Nat) (h :
(∃ (a : Option Addr),
(∃ (es : List D),
(∃ (c : Nat),
(((D.cell y0 1) = (D.sl a 2 es c)) ∧
(Br (decide ((n4 < (((List.length es) : Nat) : Int))))
(∃ (a_1 : Option Addr),
(∃ (es_1 : List D),
(∃ (c_1 : Nat),
(((D.cell y0 1) = (D.sl a_1 2 es_1 c_1)) ∧
((((0 : Int) ≤ n4) ∧
(n4 < (((List.length es_1) : Nat) : Int))) ∧
(∀ (N_1 : Nat),
((N ≤ N_1) →
(ACalls prog 106 [(Sh.ag 2)] [PV.dg 2 (List.getD es_1 (Int.toNat n4) Inhabited.default)] N_1 (fun (x : D) => (fun (N_2 : Nat) => 
((N_1 ≤ N_2) →
((Bel N_2 x) →
((ApOk a2_1 e2_1 c2_1 [x]) ∧
((apBound e2_1 [x] 32) ∧
(∀ (c_2 : Nat),
(L_spec_l3Copy_3_v1 Q N0 (IntKind.i64.wrap (n4 + (1 : Int) : Int)) y0 n1_0 a1_1 e1_1 c1_1 n2_0 (List.length (e2_1 ++ [x])) c_2 (e2_1 ++ [x]) c_2 N_2))))))))))))))))
(∀ (N_3 : Nat),
((N ≤ N_3) →
(Q (D.ag [(D.lit (Value.int IntKind.i64 n2_0)), (D.sl a2_1 2 e2_1 c2_1)]) N_3))))))))) : L_spec_l3Copy_3 Q N0 n4 y0 n1_0 a1_1 e1_1 c1_1 n2_0 a2_1 e2_1 c2_1 N :=
  headE (sh := sh) (H := H_spec_l3Copy) (fuel := 400) (by kernel_rfl) (by kernel_rfl) h
theorem l_spec_EqualType_4 (Q : QT [.bool]) (N0 : Nat) (n5 : Int) (y0 : D) (y1 : D) (N : Nat) (h :
(∃ (a : Option Addr),
(∃ (es : List D),
(∃ (c : Nat),
(((D.cell y0 1) = (D.sl a 2 es c)) ∧
(Br (decide ((n5 < (((List.length es) : Nat) : Int))))
(∃ (a_1 : Option Addr),
(∃ (es_1 : List D),
(∃ (c_1 : Nat),
(((D.cell y0 1) = (D.sl a_1 2 es_1 c_1)) ∧
((((0 : Int) ≤ n5) ∧
(n5 < (((List.length es_1) : Nat) : Int))) ∧
(∃ (a_2 : Option Addr),
(∃ (es_2 : List D),
(∃ (c_2 : Nat),
(((D.cell y1 1) = (D.sl a_2 2 es_2 c_2)) ∧
((((0 : Int) ≤ n5) ∧
(n5 < (((List.length es_2) : Nat) : Int))) ∧
(∀ (N_1 : Nat),
((N ≤ N_1) →
(ACalls prog 140 [Sh.bool] [PV.dg 2 (List.getD es_1 (Int.toNat n5) Inhabited.default), PV.dg 2 (List.getD es_2 (Int.toNat n5) Inhabited.default)] N_1 (fun (b : Bool) => (fun (N_2 : Nat) => 
((N_1 ≤ N_2) →
(Br (!b)
(∀ (N_3 : Nat),
((N_2 ≤ N_3) →
(Q false N_3)))
(L_spec_EqualType_4 Q N0 (IntKind.i64.wrap (n5 + (1 : Int) : Int)) y0 y1 N_2))))))))))))))))))
(∀ (N_4 : Nat),
((N ≤ N_4) →
(Q true N_4))))))))) : L_spec_EqualType_4 Q N0 n5 y0 y1 N :=
  headE (sh := sh) (H := H_spec_EqualType) (fuel := 400) (by kernel_rfl) (by kernel_rfl) h
theorem l_spec_SafeCtx_3 (Q : QT [.sl 4]) (N0 : Nat) (a0 : Option Addr) (e0 : List D) (c0 : Nat) (n1 : Int) (m5 : Nat) (c5 : Nat) (n6 : Int) (r0 : List D) (q0 : Nat) (N : Nat) (h :
(Br (decide ((n6 < (((List.length e0) : Nat) : Int))))
((((0 : Int) ≤ n6) ∧
(n6 < (((List.length e0) : Nat) : Int))) ∧
(∀ (N_1 : Nat),
((N ≤ N_1) →
(ACalls prog 84 [Sh.bool] [PV.dg 2 (if (2 = 0) then (D.cell (List.getD e0 (Int.toNat n6) Inhabited.default) 1) else (D.sub (List.getD e0 (Int.toNat n6) Inhabited.default) 1 2))] N_1 (fun (b : Bool) => (fun (N_2 : Nat) => 
((N_1 ≤ N_2) →
(Br b
((((0 : Int) ≤ n6) ∧
(n6 < (((List.length e0) : Nat) : Int))) ∧
(∃ (n : Int),
(((if (0 = 0) then (D.cell (List.getD e0 (Int.toNat n6) Inhabited.default) 3) else (D.sub (List.getD e0 (Int.toNat n6) Inhabited.default) 3 0)) = (D.lit (Value.int IntKind.i64 n))) ∧
(Br (decide ((n ≤ n1)))
((((0 : Int) ≤ n6) ∧
(n6 < (((List.length e0) : Nat) : Int))) ∧
(∃ (s : ByteArray),
(((if (0 = 0) then (D.cell (List.getD e0 (Int.toNat n6) Inhabited.default) 0) else (D.sub (List.getD e0 (Int.toNat n6) Inhabited.default) 0 0)) = (D.lit (Value.string s))) ∧
(∀ (N_3 : Nat),
((N_2 ≤ N_3) →
(ACalls prog 105 [(Sh.int IntKind.i64)] [PV.sv a0 4 e0 c0, PV.str s] N_3 (fun (n_1 : Int) => (fun (N_4 : Nat) => 
((N_3 ≤ N_4) →
(Br (n_1 == n6)
((((0 : Int) ≤ n6) ∧
(n6 < (((List.length e0) : Nat) : Int))) ∧
(∃ (s_1 : ByteArray),
(((if (0 = 0) then (D.cell (List.getD e0 (Int.toNat n6) Inhabited.default) 0) else (D.sub (List.getD e0 (Int.toNat n6) Inhabited.default) 0 0)) = (D.lit (Value.string s_1))) ∧
((((0 : Int) ≤ n6) ∧
(n6 < (((List.length e0) : Nat) : Int))) ∧
((((0 : Int) ≤ n6) ∧
(n6 < (((List.length e0) : Nat) : Int))) ∧
(∃ (n_2 : Int),
(((if (0 = 0) then (D.cell (List.getD e0 (Int.toNat n6) Inhabited.default) 3) else (D.sub (List.getD e0 (Int.toNat n6) Inhabited.default) 3 0)) = (D.lit (Value.int IntKind.i64 n_2))) ∧
(∀ (N_5 : Nat),
((N_4 ≤ N_5) →
(ACalls prog 106 [(Sh.ag 2)] [PV.dg 2 (if (2 = 0) then (D.cell (List.getD e0 (Int.toNat n6) Inhabited.default) 1) else (D.sub (List.getD e0 (Int.toNat n6) Inhabited.default) 1 2))] N_5 (fun (x : D) => (fun (N_6 : Nat) => 
((N_5 ≤ N_6) →
((Bel N_6 x) →
(((m5 = (List.length r0)) ∧
(c5 = q0)) ∧
((apBound r0 [(D.ag [(D.lit (Value.string s_1)), (D.cell x 0), (D.cell x 1), (D.lit (Value.int IntKind.i64 n_2))])] 56) ∧
(∀ (c : Nat),
(L_spec_SafeCtx_3 Q N0 a0 e0 c0 n1 (List.length (r0 ++ [(D.ag [(D.lit (Value.string s_1)), (D.cell x 0), (D.cell x 1), (D.lit (Value.int IntKind.i64 n_2))])])) c (IntKind.i64.wrap (n6 + (1 : Int) : Int)) (r0 ++ [(D.ag [(D.lit (Value.string s_1)), (D.cell x 0), (D.cell x 1), (D.lit (Value.int IntKind.i64 n_2))])]) c N_6))))))))))))))))))
(L_spec_SafeCtx_3 Q N0 a0 e0 c0 n1 m5 c5 (IntKind.i64.wrap (n6 + (1 : Int) : Int)) r0 q0 N_4)))))))))))
(L_spec_SafeCtx_3 Q N0 a0 e0 c0 n1 m5 c5 (IntKind.i64.wrap (n6 + (1 : Int) : Int)) r0 q0 N_2)))))
(L_spec_SafeCtx_3 Q N0 a0 e0 c0 n1 m5 c5 (IntKind.i64.wrap (n6 + (1 : Int) : Int)) r0 q0 N_2)))))))))
(((m5 = (List.length r0)) ∧
(c5 = q0)) ∧
(((m5 = (List.length r0)) ∧
(c5 = q0)) ∧
(((m5 = (List.length r0)) ∧
(c5 = q0)) ∧
(∀ (a : Option Addr),
(∀ (N_7 : Nat),
((N ≤ N_7) →
((Fresh N0 N_7 a [(D.ag r0)]) →
(∀ (N_8 : Nat),
((N_7 ≤ N_8) →
(Q a r0 q0 N_8)))))))))))) : L_spec_SafeCtx_3 Q N0 a0 e0 c0 n1 m5 c5 n6 r0 q0 N :=
  headE (sh := sh) (H := H_spec_SafeCtx) (fuel := 400) (by kernel_rfl) (by kernel_rfl) h
theorem l_spec_l9Op_5 (Q : QT [.ag 2, .bool]) (N0 : Nat) (s0 : ByteArray) (a1 : Option Addr) (e1 : List D) (c1 : Nat) (n6 : Int) (n7 : Int) (n0_0 : Int) (a0_1 : Option Addr) (e0_1 : List D) (c0_1 : Nat) (N : Nat) (h :
(Br (decide ((n7 < (((List.length e1) : Nat) : Int))))
((((0 : Int) ≤ n7) ∧
(n7 < (((List.length e1) : Nat) : Int))) ∧
(∃ (n : Int),
(((if (0 = 0) then (D.cell (List.getD e1 (Int.toNat n7) Inhabited.default) 0) else (D.sub (List.getD e1 (Int.toNat n7) Inhabited.default) 0 0)) = (D.lit (Value.int IntKind.i64 n))) ∧
(Br (bne n n6)
(∀ (N_1 : Nat),
((N ≤ N_1) →
(Q (D.ag [(D.lit (Value.int IntKind.i64 (0 : Int))), (D.sl Option.none 2 [] 0)]) false N_1)))
(L_spec_l9Op_5 Q N0 s0 a1 e1 c1 n6 (IntKind.i64.wrap (n7 + (1 : Int) : Int)) n0_0 a0_1 e0_1 c0_1 N)))))
(Br ((ByteArray.toList s0) == (ByteArray.toList (bytes [43])))
(∀ (N_2 : Nat),
((N ≤ N_2) →
(ACalls prog 107 [(Sh.ag 2)] [] N_2 (fun (x : D) => (fun (N_3 : Nat) => 
((N_2 ≤ N_3) →
((Bel N_3 x) →
(∀ (N_4 : Nat),
((N_3 ≤ N_4) →
(Q x true N_4))))))))))
(Br ((ByteArray.toList s0) == (ByteArray.toList (bytes [45])))
(∀ (N_5 : Nat),
((N ≤ N_5) →
(ACalls prog 107 [(Sh.ag 2)] [] N_5 (fun (x_1 : D) => (fun (N_6 : Nat) => 
((N_5 ≤ N_6) →
((Bel N_6 x_1) →
(∀ (N_7 : Nat),
((N_6 ≤ N_7) →
(Q x_1 true N_7))))))))))
(Br ((ByteArray.toList s0) == (ByteArray.toList (bytes [42])))
(∀ (N_8 : Nat),
((N ≤ N_8) →
(ACalls prog 107 [(Sh.ag 2)] [] N_8 (fun (x_2 : D) => (fun (N_9 : Nat) => 
((N_8 ≤ N_9) →
((Bel N_9 x_2) →
(∀ (N_10 : Nat),
((N_9 ≤ N_10) →
(Q x_2 true N_10))))))))))
(∀ (N_11 : Nat),
((N ≤ N_11) →
(ACalls prog 108 [(Sh.ag 2)] [] N_11 (fun (x_3 : D) => (fun (N_12 : Nat) => 
((N_11 ≤ N_12) →
((Bel N_12 x_3) →
(∀ (N_13 : Nat),
((N_12 ≤ N_13) →
(Q x_3 true N_13))))))))))))))) : L_spec_l9Op_5 Q N0 s0 a1 e1 c1 n6 n7 n0_0 a0_1 e0_1 c0_1 N :=
  headE (sh := sh) (H := H_spec_l9Op) (fuel := 400) (by kernel_rfl) (by kernel_rfl) h
theorem l_spec_l9Some_24 (Q : QT [.ag 2, .bool]) (N0 : Nat) (a0 : Option Addr) (e0 : List D) (c0 : Nat) (n2 : Int) (m13 : Nat) (c13 : Nat) (n14 : Int) (y0 : D) (n1_0 : Int) (a1_1 : Option Addr) (e1_1 : List D) (c1_1 : Nat) (r2 : List D) (q2 : Nat) (N : Nat) (h :
(∃ (a : Option Addr),
(∃ (es : List D),
(∃ (c : Nat),
(((D.cell y0 8) = (D.sl a 9 es c)) ∧
(Br (decide ((n14 < (((List.length es) : Nat) : Int))))
(∃ (a_1 : Option Addr),
(∃ (es_1 : List D),
(∃ (c_1 : Nat),
(((D.cell y0 8) = (D.sl a_1 9 es_1 c_1)) ∧
((((0 : Int) ≤ n14) ∧
(n14 < (((List.length es_1) : Nat) : Int))) ∧
(∀ (N_1 : Nat),
((N ≤ N_1) →
(ACalls prog 38 [(Sh.ag 2), Sh.bool] [PV.sv a0 4 e0 c0, PV.dg 9 (List.getD es_1 (Int.toNat n14) Inhabited.default), PV.int .i64 n2] N_1 (fun (x : D) => (fun (b : Bool) => (fun (N_2 : Nat) => 
((N_1 ≤ N_2) →
((Bel N_2 x) →
(Br (!b)
(∀ (N_3 : Nat),
((N_2 ≤ N_3) →
(Q (D.ag [(D.lit (Value.int IntKind.i64 (0 : Int))), (D.sl Option.none 2 [] 0)]) false N_3)))
(((m13 = (List.length r2)) ∧
(c13 = q2)) ∧
((apBound r2 [x] 32) ∧
(∀ (c_2 : Nat),
(L_spec_l9Some_24 Q N0 a0 e0 c0 n2 (List.length (r2 ++ [x])) c_2 (IntKind.i64.wrap (n14 + (1 : Int) : Int)) y0 n1_0 a1_1 e1_1 c1_1 (r2 ++ [x]) c_2 N_2))))))))))))))))))
(((m13 = (List.length r2)) ∧
(c13 = q2)) ∧
(∀ (a_2 : Option Addr),
((ApA a_2 r2) →
((Off [a_2] y0) →
(∀ (N_4 : Nat),
((N ≤ N_4) →
((BelA N_4 [a_2]) →
(ACalls prog 111 [(Sh.ag 2), Sh.bool] [PV.dg 9 y0, PV.sv a_2 2 r2 c13] N_4 (fun (x_1 : D) => (fun (b_1 : Bool) => (fun (N_5 : Nat) => 
((N_4 ≤ N_5) →
((Off [a_2] x_1) ∧
((Bel N_5 x_1) →
(∀ (N_6 : Nat),
((N_5 ≤ N_6) →
(Q x_1 b_1 N_6))))))))))))))))))))))) : L_spec_l9Some_24 Q N0 a0 e0 c0 n2 m13 c13 n14 y0 n1_0 a1_1 e1_1 c1_1 r2 q2 N :=
  headE (sh := sh) (H := H_spec_l9Some) (fuel := 400) (by kernel_rfl) (by kernel_rfl) h
theorem l_spec_l3Copy_3_v1 (Q : QT [.ag 2]) (N0 : Nat) (n4 : Int) (y0 : D) (n1_0 : Int) (a1_1 : Option Addr) (e1_1 : List D) (c1_1 : Nat) (n2_0 : Int) (m2_1 : Nat) (c2_1 : Nat) (r3 : List D) (q3 : Nat) (N : Nat) (h :
(∃ (a : Option Addr),
(∃ (es : List D),
(∃ (c : Nat),
(((D.cell y0 1) = (D.sl a 2 es c)) ∧
(Br (decide ((n4 < (((List.length es) : Nat) : Int))))
(∃ (a_1 : Option Addr),
(∃ (es_1 : List D),
(∃ (c_1 : Nat),
(((D.cell y0 1) = (D.sl a_1 2 es_1 c_1)) ∧
((((0 : Int) ≤ n4) ∧
(n4 < (((List.length es_1) : Nat) : Int))) ∧
(∀ (N_1 : Nat),
((N ≤ N_1) →
(ACalls prog 106 [(Sh.ag 2)] [PV.dg 2 (List.getD es_1 (Int.toNat n4) Inhabited.default)] N_1 (fun (x : D) => (fun (N_2 : Nat) => 
((N_1 ≤ N_2) →
((Bel N_2 x) →
(((m2_1 = (List.length r3)) ∧
(c2_1 = q3)) ∧
((apBound r3 [x] 32) ∧
(∀ (c_2 : Nat),
(L_spec_l3Copy_3_v1 Q N0 (IntKind.i64.wrap (n4 + (1 : Int) : Int)) y0 n1_0 a1_1 e1_1 c1_1 n2_0 (List.length (r3 ++ [x])) c_2 (r3 ++ [x]) c_2 N_2))))))))))))))))
(((m2_1 = (List.length r3)) ∧
(c2_1 = q3)) ∧
(((m2_1 = (List.length r3)) ∧
(c2_1 = q3)) ∧
(((m2_1 = (List.length r3)) ∧
(c2_1 = q3)) ∧
(∀ (a_2 : Option Addr),
(∀ (N_3 : Nat),
((N ≤ N_3) →
((Fresh N0 N_3 a_2 [(D.ag r3)]) →
(∀ (N_4 : Nat),
((N_3 ≤ N_4) →
(Q (D.ag [(D.lit (Value.int IntKind.i64 n2_0)), (D.sl a_2 2 r3 q3)]) N_4)))))))))))))))) : L_spec_l3Copy_3_v1 Q N0 n4 y0 n1_0 a1_1 e1_1 c1_1 n2_0 m2_1 c2_1 r3 q3 N :=
  headE (sh := sh) (H := H_spec_l3Copy) (fuel := 400) (by kernel_rfl) (by kernel_rfl) h

end Go.Proofs.YtobhcgffgpcjgaaGreat
