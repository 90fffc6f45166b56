/- Printed by gen.py: what the functions come to. -/
import Derived.Test.YtobhcgffgpcjgaaGreatJh
set_option linter.unusedVariables false
set_option maxRecDepth 100000
namespace Go.Proofs.YtobhcgffgpcjgaaGreat
open Go Go.Proofs Go.Proofs.Tryz
def H_laws_FnExactTypeOf : Hint := { cuts := [], joins := [], ords := [(5, [{ i := 0, hard := true }, { i := 1, hard := true }, { i := 2, hard := true, cl := [24] }, { i := 3, hard := true }]),
  (8, [{ i := 0 }, { i := 2 }, { i := 4 }, { i := 9 }, { i := 1, hard := true }, { i := 3, hard := true, cl := [32] }, { i := 5, hard := true, cl := [33] }, { i := 6 }, { i := 7 }, { i := 8 }, { i := 10, hard := true }, { i := 11 }]),
  (10, [{ i := 0, hard := true }, { i := 1, hard := true, cl := [40] }, { i := 2, hard := true }, { i := 3, hard := true }]),
  (11, [{ i := 0, hard := true }, { i := 1, hard := true }, { i := 2, hard := true }, { i := 3, hard := true, cl := [44] }, { i := 4, hard := true }, { i := 5, hard := true }, { i := 6, hard := true }, { i := 7, hard := true }, { i := 8, hard := true }, { i := 9, hard := true }]),
  (12, [{ i := 0, hard := true }, { i := 1, hard := true }, { i := 2, hard := true, cl := [49, 50] }, { i := 3, hard := true }, { i := 4, hard := true }, { i := 5, hard := true }, { i := 6, hard := true }, { i := 7, hard := true }, { i := 8, hard := true }]),
  (16, [{ i := 0 }, { i := 1 }, { i := 2, hard := true, cl := [64] }, { i := 3, hard := true, cl := [63, 65] }, { i := 4 }]),
  (19, [{ i := 0, hard := true }, { i := 1, hard := true }, { i := 2, hard := true, mh := some { keep := [0, 2, 4, 8, 9, 11, 12, 13, 14] } }, { i := 3, hard := true }]),
  (20, [{ i := 0, hard := true }, { i := 1, hard := true }, { i := 2, hard := true, mh := some { place := some 11, keep := [0, 2, 4, 8, 9, 12, 13, 14] } }, { i := 3, hard := true }]),
  (21, [{ i := 0, hard := true }, { i := 1, hard := true }, { i := 2, hard := true }, { i := 3, hard := true }, { i := 4, hard := true }, { i := 5, hard := true, cl := [77, 78] }, { i := 6, hard := true }, { i := 7, hard := true }, { i := 8, hard := true }, { i := 9, hard := true }, { i := 10, hard := true }, { i := 11, hard := true }, { i := 12, hard := true }]),
  (24, [{ i := 0, hard := true }, { i := 1, hard := true }, { i := 2, hard := true, mh := some { place := some 12, keep := [0, 2, 4, 8, 9, 12, 15] } }, { i := 3, hard := true }]),
  (26, [{ i := 0, hard := true }, { i := 1, hard := true }, { i := 2, hard := true, cl := [90] }, { i := 3, hard := true }]),
  (31, [{ i := 0 }, { i := 2 }, { i := 4 }, { i := 9 }, { i := 1, hard := true }, { i := 3, hard := true, cl := [101] }, { i := 5, hard := true, cl := [102] }, { i := 6 }, { i := 7 }, { i := 8 }, { i := 10, hard := true }, { i := 11 }]),
  (32, [{ i := 0, hard := true }, { i := 1, hard := true }, { i := 2, hard := true, cl := [107, 108] }, { i := 3, hard := true }, { i := 4, hard := true }, { i := 5, hard := true }, { i := 6, hard := true }, { i := 7, hard := true }, { i := 8, hard := true }]),
  (35, [{ i := 0, hard := true }, { i := 1, hard := true }, { i := 2, hard := true, cl := [116] }, { i := 3, hard := true }])] }
theorem w_laws_FnExactTypeOf (N : Nat) (a0 : Option Addr) (e0 : List D) (c0 : Nat) (x1 : D) (n2 : Int) (Q : QT [.bool]) (h :
((Bel N (D.sl a0 4 e0 c0)) →
((Bel N x1) →
(∀ (N_1 : Nat),
((N ≤ N_1) →
(ACalls prog 7 [(Sh.int IntKind.i64)] [PV.sv a0 4 e0 c0, PV.int .i64 (1048576 : Int)] N_1 (fun (n : Int) => (fun (N_2 : Nat) => 
((N_1 ≤ N_2) →
(Br (decide ((n < (0 : Int))))
(∀ (N_3 : Nat),
((N_2 ≤ N_3) →
(Q true N_3)))
(∀ (N_4 : Nat),
((N_2 ≤ N_4) →
(ACalls prog 8 [(Sh.int IntKind.i64)] [PV.dg 9 x1, PV.int .i64 n] N_4 (fun (n_1 : Int) => (fun (N_5 : Nat) => 
((N_4 ≤ N_5) →
(Br (decide ((n_1 < (0 : Int))))
(∀ (N_6 : Nat),
((N_5 ≤ N_6) →
(Q true N_6)))
(∀ (N_7 : Nat),
((N_5 ≤ N_7) →
(ACalls prog 10 [(Sh.sl 4)] [PV.sv a0 4 e0 c0] N_7 (fun (a : Option Addr) => (fun (es : List D) => (fun (c : Nat) => (fun (N_8 : Nat) => 
((N_7 ≤ N_8) →
((Bel N_8 (D.sl a 4 es c)) →
(∀ (N_9 : Nat),
((N_8 ≤ N_9) →
(ACalls prog 11 [(Sh.ag 9)] [PV.dg 9 x1] N_9 (fun (x : D) => (fun (N_10 : Nat) => 
((N_9 ≤ N_10) →
((Bel N_10 x) →
(∀ (N_11 : Nat),
((N_10 ≤ N_11) →
(ACalls prog 9 [(Sh.ag 2), Sh.bool] [PV.sv a 4 es c, PV.dg 9 x, PV.int .i64 n2] N_11 (fun (x_1 : D) => (fun (b : Bool) => (fun (N_12 : Nat) => 
((N_11 ≤ N_12) →
((Bel N_12 x_1) →
(∀ (N_13 : Nat),
((N_12 ≤ N_13) →
(ACalls prog 10 [(Sh.sl 4)] [PV.sv a0 4 e0 c0] N_13 (fun (a_1 : Option Addr) => (fun (es_1 : List D) => (fun (c_1 : Nat) => (fun (N_14 : Nat) => 
((N_13 ≤ N_14) →
((Bel N_14 (D.sl a_1 4 es_1 c_1)) →
(∀ (N_15 : Nat),
((N_14 ≤ N_15) →
(ACalls prog 11 [(Sh.ag 9)] [PV.dg 9 x1] N_15 (fun (x_2 : D) => (fun (N_16 : Nat) => 
((N_15 ≤ N_16) →
((Bel N_16 x_2) →
(∀ (N_17 : Nat),
((N_16 ≤ N_17) →
(ACalls prog 12 [(Sh.ag 2), Sh.bool] [PV.sv a_1 4 es_1 c_1, PV.dg 9 x_2, PV.int .i64 n2] N_17 (fun (x_3 : D) => (fun (b_1 : Bool) => (fun (N_18 : Nat) => 
((N_17 ≤ N_18) →
((Bel N_18 x_3) →
(∀ (N_19 : Nat),
((N_18 ≤ N_19) →
(ACalls prog 13 [Sh.bool] [PV.dg 2 x_3, PV.dg 2 x_1] N_19 (fun (b_2 : Bool) => (fun (N_20 : Nat) => 
((N_19 ≤ N_20) →
(Br (!b_2)
(∀ (N_21 : Nat),
((N_20 ≤ N_21) →
(Q false N_21)))
(Br (!(b_1 == b))
(∀ (N_22 : Nat),
((N_20 ≤ N_22) →
(Q false N_22)))
(∀ (N_23 : Nat),
((N_20 ≤ N_23) →
(ACalls prog 10 [(Sh.sl 4)] [PV.sv a0 4 e0 c0] N_23 (fun (a_2 : Option Addr) => (fun (es_2 : List D) => (fun (c_2 : Nat) => (fun (N_24 : Nat) => 
((N_23 ≤ N_24) →
((Bel N_24 (D.sl a_2 4 es_2 c_2)) →
(∀ (N_25 : Nat),
((N_24 ≤ N_25) →
(ACalls prog 14 [Sh.bool] [PV.sv a_1 4 es_1 c_1, PV.sv a_2 4 es_2 c_2] N_25 (fun (b_3 : Bool) => (fun (N_26 : Nat) => 
((N_25 ≤ N_26) →
(Br (!b_3)
(∀ (N_27 : Nat),
((N_26 ≤ N_27) →
(Q false N_27)))
(∀ (N_28 : Nat),
((N_26 ≤ N_28) →
(ACalls prog 11 [(Sh.ag 9)] [PV.dg 9 x1] N_28 (fun (x_4 : D) => (fun (N_29 : Nat) => 
((N_28 ≤ N_29) →
((Bel N_29 x_4) →
(∀ (N_30 : Nat),
((N_29 ≤ N_30) →
(ACalls prog 15 [Sh.bool] [PV.dg 9 x_2, PV.dg 9 x_4] N_30 (fun (b_4 : Bool) => (fun (N_31 : Nat) => 
((N_30 ≤ N_31) →
(Br (!b_4)
(∀ (N_32 : Nat),
((N_31 ≤ N_32) →
(Q false N_32)))
((Tree (D.sl a_1 4 es_1 c_1)) ∧
((Low N (D.sl a_1 4 es_1 c_1)) ∧
((Dis (D.sl a_1 4 es_1 c_1) [(D.sl a0 4 e0 c0), x1, x_1, x_2, x_3]) ∧
(∀ (N_33 : Nat),
((N_31 ≤ N_33) →
(MC prog 16 (D.sl a_1 4 es_1 c_1) (1 : Int) N_33 (fun (x_5 : D) => (fun (n_2 : Int) => (fun (N_34 : Nat) => 
((N_33 ≤ N_34) →
((Tree x_2) ∧
((Low N x_2) ∧
((x_2 = x_2) ∧
((Dis x_2 [(D.sl a0 4 e0 c0), x1, x_1, x_3]) ∧
(∀ (N_35 : Nat),
((N_34 ≤ N_35) →
(MC prog 17 x_2 n_2 N_35 (fun (x_6 : D) => (fun (n_3 : Int) => (fun (N_36 : Nat) => 
((N_35 ≤ N_36) →
(Br (decide ((n_3 < (0 : Int))))
(∀ (N_37 : Nat),
((N_36 ≤ N_37) →
(Q false N_37)))
(∀ (N_38 : Nat),
((N_36 ≤ N_38) →
(ACalls prog 13 [Sh.bool] [PV.dg 2 x_3, PV.dg 2 x_1] N_38 (fun (b_5 : Bool) => (fun (N_39 : Nat) => 
((N_38 ≤ N_39) →
(Br (!b_5)
(∀ (N_40 : Nat),
((N_39 ≤ N_40) →
(Q false N_40)))
(Br (!(b_1 == b))
(∀ (N_41 : Nat),
((N_39 ≤ N_41) →
(Q false N_41)))
((Tree x_3) ∧
((Low N x_3) ∧
((x_3 = x_3) ∧
((Dis x_3 [(D.sl a0 4 e0 c0), x1, x_1, x_6]) ∧
(∀ (N_42 : Nat),
((N_39 ≤ N_42) →
(MC prog 18 x_3 (1 : Int) N_42 (fun (x_7 : D) => (fun (n_4 : Int) => (fun (N_43 : Nat) => 
((N_42 ≤ N_43) →
(∀ (N_44 : Nat),
((N_43 ≤ N_44) →
(ACalls prog 19 [(Sh.int IntKind.i64)] [PV.dg 2 x_7, PV.int .i64 (1 : Int)] N_44 (fun (n_5 : Int) => (fun (N_45 : Nat) => 
((N_44 ≤ N_45) →
(Br (decide ((n_5 < (0 : Int))))
(∀ (N_46 : Nat),
((N_45 ≤ N_46) →
(Q false N_46)))
(Br (bne n_5 n_4)
(∀ (N_47 : Nat),
((N_45 ≤ N_47) →
(Q false N_47)))
(∀ (N_48 : Nat),
((N_45 ≤ N_48) →
(ACalls prog 10 [(Sh.sl 4)] [PV.sv a0 4 e0 c0] N_48 (fun (a_3 : Option Addr) => (fun (es_3 : List D) => (fun (c_3 : Nat) => (fun (N_49 : Nat) => 
((N_48 ≤ N_49) →
((Bel N_49 (D.sl a_3 4 es_3 c_3)) →
(∀ (N_50 : Nat),
((N_49 ≤ N_50) →
(ACalls prog 11 [(Sh.ag 9)] [PV.dg 9 x1] N_50 (fun (x_8 : D) => (fun (N_51 : Nat) => 
((N_50 ≤ N_51) →
((Bel N_51 x_8) →
(∀ (N_52 : Nat),
((N_51 ≤ N_52) →
(ACalls prog 12 [(Sh.ag 2), Sh.bool] [PV.sv a_3 4 es_3 c_3, PV.dg 9 x_8, PV.int .i64 n2] N_52 (fun (x_9 : D) => (fun (b_6 : Bool) => (fun (N_53 : Nat) => 
((N_52 ≤ N_53) →
((Bel N_53 x_9) →
(∀ (N_54 : Nat),
((N_53 ≤ N_54) →
(ACalls prog 13 [Sh.bool] [PV.dg 2 x_9, PV.dg 2 x_1] N_54 (fun (b_7 : Bool) => (fun (N_55 : Nat) => 
((N_54 ≤ N_55) →
(Br (!b_7)
(∀ (N_56 : Nat),
((N_55 ≤ N_56) →
(Q false N_56)))
(Br (!(b_6 == b))
(∀ (N_57 : Nat),
((N_55 ≤ N_57) →
(Q false N_57)))
(∀ (N_58 : Nat),
((N_55 ≤ N_58) →
(ACalls prog 19 [(Sh.int IntKind.i64)] [PV.dg 2 x_7, PV.int .i64 (1 : Int)] N_58 (fun (n_6 : Int) => (fun (N_59 : Nat) => 
((N_58 ≤ N_59) →
(Br (decide ((n_6 < (0 : Int))))
(∀ (N_60 : Nat),
((N_59 ≤ N_60) →
(Q false N_60)))
(Br (bne n_6 n_4)
(∀ (N_61 : Nat),
((N_59 ≤ N_61) →
(Q false N_61)))
(∀ (N_62 : Nat),
((N_59 ≤ N_62) →
(Q true N_62))))))))))))))))))))))))))))))))))))))))))))))))))))))))))))))))))))))))))))))))))))))))))))))))))))))))))))))))))))))))))))))))))))))))))))))))))))))))))))))))))))))))))))))))))))))))))))))))))) : ACalls prog 3 [.bool] [PV.sv a0 4 e0 c0, PV.dg 9 x1, PV.int .i64 n2] N Q :=
  entryE (sh := sh) (H := H_laws_FnExactTypeOf) (fuel := 400) (by kernel_rfl) (by kernel_rfl) (by kernel_rfl) h

end Go.Proofs.YtobhcgffgpcjgaaGreat
