/- Printed by gen.py: what the functions come to. -/
import Derived.Test.YthfoibejlpfhpaaGreatJh
set_option linter.unusedVariables false
set_option maxRecDepth 100000
namespace Go.Proofs.YthfoibejlpfhpaaGreat
open Go Go.Proofs Go.Proofs.Tryz
def H_laws_szType : Hint := ⟨[], [], []⟩
def H_laws_szTypeS : Hint := ⟨[hc 5 [0, 1, 5]], [], [(7, hs 7 [ec 5 [21]])]⟩
def H_laws_szTerm : Hint := ⟨[], [], [(7, hs 5 [ec 3 [20]]), (10, hs 5 [ec 3 [26]])]⟩
def H_laws_szTermS : Hint := ⟨[hc 5 [0, 1, 5]], [], [(7, hs 7 [ec 5 [21]])]⟩
def L_laws_szTypeS_5 (Q : QT [.int .i64]) (N0 : Nat) (a0 : Option Addr) (e0 : List D) (c0 : Nat) (n1 n5 : Int) (N : Nat) : Prop := AT prog 84 [.int .i64] Q N0 .ord (loopAt prog 84 5) ⟨.sv a0 2 e0 c0 :: .int .i64 n1 :: an 3 (.int .i64 n5 :: an 21 []), [], N, none⟩
def L_laws_szTermS_5 (Q : QT [.int .i64]) (N0 : Nat) (a0 : Option Addr) (e0 : List D) (c0 : Nat) (n1 n5 : Int) (N : Nat) : Prop := AT prog 44 [.int .i64] Q N0 .ord (loopAt prog 44 5) ⟨.sv a0 9 e0 c0 :: .int .i64 n1 :: an 3 (.int .i64 n5 :: an 21 []), [], N, none⟩
theorem w_laws_szType (N : Nat) (x0 : D) (n1 : Int) (Q : QT [.int .i64]) (h :
Bel N x0 → ∃ a es, ∃ c : Nat, (x0.cell 1) = D.sl a 2 es c ∧ ∀ N1, N ≤ N1 → ACalls prog 84 [.int .i64] [.sv a 2 es c, .int .i64 n1] N1 (fun n N2 => N1 ≤ N2
 → Br (decide (n < 0)) (∀ N3, N2 ≤ N3 → Q (-1) N3) (∀ N4, N2 ≤ N4 → Q n N4))) : ACalls prog 43 [.int .i64] [PV.dg 2 x0, PV.int .i64 n1] N Q :=
  eE (H := H_laws_szType) (by kernel_rfl) (by kernel_rfl) h
theorem w_laws_szTypeS (N : Nat) (a0 : Option Addr) (e0 : List D) (c0 : Nat) (n1 : Int) (Q : QT [.int .i64]) (h :
Bel N (D.sl a0 2 e0 c0) → Br (decide (IntKind.i64.wrap (n1 - (e0.length : Int)) < 0)) (∀ N1, N ≤ N1 → Q (-1) N1) (L_laws_szTypeS_5 Q N a0 e0 c0 (IntKind.i64.wrap
 (n1 - (e0.length : Int))) 0 N)) : ACalls prog 84 [.int .i64] [PV.sv a0 2 e0 c0, PV.int .i64 n1] N Q :=
  eE (H := H_laws_szTypeS) (by kernel_rfl) (by kernel_rfl) h
theorem w_laws_szTerm (N : Nat) (x0 : D) (n1 : Int) (Q : QT [.int .i64]) (h :
Bel N x0 → ∃ s, (x0.cell 1) = D.lit (.string s) ∧ Br (decide (IntKind.i64.wrap (n1 - (s.size : Int)) < 0)) (∀ N1, N ≤ N1 → Q (-1) N1) (∃ s_1, (x0.cell 2) = D.lit
 (.string s_1) ∧ Br (decide (IntKind.i64.wrap (IntKind.i64.wrap (n1 - (s.size : Int)) - (s_1.size : Int)) < 0)) (∀ N2, N ≤ N2 → Q (-1) N2) (∀ N3, N ≤ N3 → ACalls
 prog 43 [.int .i64] [.dg 2 (D.sub x0 4 2), .int .i64 (IntKind.i64.wrap (IntKind.i64.wrap (n1 - (s.size : Int)) - (s_1.size : Int)))] N3 (fun n N4 => N3 ≤ N4
 → Br (decide (n < 0)) (∀ N5, N4 ≤ N5 → Q (-1) N5) (∀ N6, N4 ≤ N6 → ACalls prog 43 [.int .i64] [.dg 2 (D.sub x0 6 2), .int .i64 n] N6 (fun n_1 N7 => N6
 ≤ N7 → Br (decide (n_1 < 0)) (∀ N8, N7 ≤ N8 → Q (-1) N8) (∃ a es, ∃ c : Nat, (x0.cell 8) = D.sl a 9 es c ∧ ∀ N9, N7 ≤ N9 → ACalls prog 44 [.int .i64] [.sv
 a 9 es c, .int .i64 n_1] N9 (fun n_2 N10 => N9 ≤ N10 → Br (decide (n_2 < 0)) (∀ N11, N10 ≤ N11 → Q (-1) N11) (∀ N12, N10 ≤ N12 → Q n_2 N12))))))))) : ACalls prog 12 [.int .i64] [PV.dg 9 x0, PV.int .i64 n1] N Q :=
  eE (H := H_laws_szTerm) (by kernel_rfl) (by kernel_rfl) h
theorem w_laws_szTermS (N : Nat) (a0 : Option Addr) (e0 : List D) (c0 : Nat) (n1 : Int) (Q : QT [.int .i64]) (h :
Bel N (D.sl a0 9 e0 c0) → Br (decide (IntKind.i64.wrap (n1 - (e0.length : Int)) < 0)) (∀ N1, N ≤ N1 → Q (-1) N1) (L_laws_szTermS_5 Q N a0 e0 c0 (IntKind.i64.wrap
 (n1 - (e0.length : Int))) 0 N)) : ACalls prog 44 [.int .i64] [PV.sv a0 9 e0 c0, PV.int .i64 n1] N Q :=
  eE (H := H_laws_szTermS) (by kernel_rfl) (by kernel_rfl) h
theorem l_laws_szTypeS_5 (Q : QT [.int .i64]) (N0 : Nat) (a0 : Option Addr) (e0 : List D) (c0 : Nat) (n1 n5 : Int) (N : Nat) (h :
Br (decide (n5 < (e0.length : Int))) ((0 ≤ n5 ∧ n5 < (e0.length : Int)) ∧ ∀ N1, N ≤ N1 → ACalls prog 43 [.int .i64] [.dg 2 (List.getD e0 n5.toNat default), .int
 .i64 n1] N1 (fun n N2 => N1 ≤ N2 → Br (decide (n < 0)) (∀ N3, N2 ≤ N3 → Q (-1) N3) (L_laws_szTypeS_5 Q N0 a0 e0 c0 n (IntKind.i64.wrap (n5 + 1)) N2))) (∀
 N4, N ≤ N4 → Q n1 N4)) : L_laws_szTypeS_5 Q N0 a0 e0 c0 n1 n5 N :=
  hE (H := H_laws_szTypeS) (by kernel_rfl) h
theorem l_laws_szTermS_5 (Q : QT [.int .i64]) (N0 : Nat) (a0 : Option Addr) (e0 : List D) (c0 : Nat) (n1 n5 : Int) (N : Nat) (h :
Br (decide (n5 < (e0.length : Int))) ((0 ≤ n5 ∧ n5 < (e0.length : Int)) ∧ ∀ N1, N ≤ N1 → ACalls prog 12 [.int .i64] [.dg 9 (List.getD e0 n5.toNat default), .int
 .i64 n1] N1 (fun n N2 => N1 ≤ N2 → Br (decide (n < 0)) (∀ N3, N2 ≤ N3 → Q (-1) N3) (L_laws_szTermS_5 Q N0 a0 e0 c0 n (IntKind.i64.wrap (n5 + 1)) N2))) (∀
 N4, N ≤ N4 → Q n1 N4)) : L_laws_szTermS_5 Q N0 a0 e0 c0 n1 n5 N :=
  hE (H := H_laws_szTermS) (by kernel_rfl) h

end Go.Proofs.YthfoibejlpfhpaaGreat

/- Printed by gen.py: what the functions come to. -/
set_option linter.unusedVariables false
set_option maxRecDepth 100000
namespace Go.Proofs.YthfoibejlpfhpaaGreat
open Go Go.Proofs Go.Proofs.Tryz
def H_laws_toType : Hint := ⟨[], [], []⟩
def H_laws_toTypeS : Hint := ⟨[hc 3 [0, 3, 4]], [], [(5, hs 9 [ec 6 [19]])]⟩
def H_laws_toTerm : Hint := ⟨[], [], [(6, hs 5 [ec 2 [17]]), (7, hs 5 [ec 2 [21]])]⟩
def H_laws_toTermS : Hint := ⟨[hc 3 [0, 3, 4]], [], [(5, hs 9 [ec 6 [19]])]⟩
def L_laws_toTypeS_3 (Q : QT [.sl 2]) (N0 : Nat) (a0 : Option Addr) (e0 : List D) (c0 m3 c3 : Nat) (n4 : Int) (r0 : List D) (q0 : Nat) (N : Nat) : Prop := AT prog 85 [.sl 2] Q N0 .ord (loopAt prog 85 3) ⟨.sv a0 2 e0 c0 :: an 2 (.sb 0 2 0 m3 c3 :: .int .i64 n4 :: an 18 []), [.arr 36 2 r0 q0], N, none⟩
def L_laws_toTermS_3 (Q : QT [.sl 9]) (N0 : Nat) (a0 : Option Addr) (e0 : List D) (c0 m3 c3 : Nat) (n4 : Int) (r0 : List D) (q0 : Nat) (N : Nat) : Prop := AT prog 48 [.sl 9] Q N0 .ord (loopAt prog 48 3) ⟨.sv a0 9 e0 c0 :: an 2 (.sb 0 9 0 m3 c3 :: .int .i64 n4 :: an 18 []), [.arr 39 9 r0 q0], N, none⟩
theorem w_laws_toType (N : Nat) (x0 : D) (Q : QT [.ag 2]) (h :
Bel N x0 → ∃ n : Int, (x0.cell 0) = D.lit (.int .i64 n) ∧ ∃ a es, ∃ c : Nat, (x0.cell 1) = D.sl a 2 es c ∧ ∀ N1, N ≤ N1 → ACalls prog 85 [.sl 2] [.sv a 2 es c]
 N1 (fun a_1 es_1 c_1 N2 => N1 ≤ N2 → Bel N2 (D.sl a_1 2 es_1 c_1) → ∀ N3, N2 ≤ N3 → Q (D.ag [D.lit (.int .i64 n), D.sl a_1 2 es_1 c_1]) N3)) : ACalls prog 47 [.ag 2] [PV.dg 2 x0] N Q :=
  eE (H := H_laws_toType) (by kernel_rfl) (by kernel_rfl) h
theorem w_laws_toTypeS (N : Nat) (a0 : Option Addr) (e0 : List D) (c0 : Nat) (Q : QT [.sl 2]) (h :
Bel N (D.sl a0 2 e0 c0) → (0 ≤ (e0.length : Int) ∧ (e0.length : Int) ≤ (e0.length : Int) ∧ (32 * (e0.length : Int)) ≤ 140737488355328 ∧ (e0.length : Int) ≤ 9223372036854775807)
 ∧ L_laws_toTypeS_3 Q N a0 e0 c0 ((e0.length : Int)).toNat ((e0.length : Int)).toNat 0 (List.replicate ((e0.length : Int)).toNat (D.ag [D.lit (.int .i64 0), D.sl
 Option.none 2 [] 0])) ((e0.length : Int)).toNat N) : ACalls prog 85 [.sl 2] [PV.sv a0 2 e0 c0] N Q :=
  eE (H := H_laws_toTypeS) (by kernel_rfl) (by kernel_rfl) h
theorem w_laws_toTerm (N : Nat) (x0 : D) (Q : QT [.ag 9]) (h :
Bel N x0 → ∃ n : Int, (x0.cell 0) = D.lit (.int .i64 n) ∧ ∃ s, (x0.cell 1) = D.lit (.string s) ∧ ∃ s_1, (x0.cell 2) = D.lit (.string s_1) ∧ ∃ n_1 : Int, (x0.cell
 3) = D.lit (.int .i64 n_1) ∧ ∀ N1, N ≤ N1 → ACalls prog 47 [.ag 2] [.dg 2 (D.sub x0 4 2)] N1 (fun x N2 => N1 ≤ N2 → Bel N2 x → ∀ N3, N2 ≤ N3 → ACalls prog
 47 [.ag 2] [.dg 2 (D.sub x0 6 2)] N3 (fun x_1 N4 => N3 ≤ N4 → Bel N4 x_1 → ∃ a es, ∃ c : Nat, (x0.cell 8) = D.sl a 9 es c ∧ ∀ N5, N4 ≤ N5 → ACalls prog 48
 [.sl 9] [.sv a 9 es c] N5 (fun a_1 es_1 c_1 N6 => N5 ≤ N6 → Bel N6 (D.sl a_1 9 es_1 c_1) → ∀ N7, N6 ≤ N7 → Q (D.ag [D.lit (.int .i64 n), D.lit (.string s),
 D.lit (.string s_1), D.lit (.int .i64 n_1), (x.cell 0), (x.cell 1), (x_1.cell 0), (x_1.cell 1), D.sl a_1 9 es_1 c_1]) N7)))) : ACalls prog 15 [.ag 9] [PV.dg 9 x0] N Q :=
  eE (H := H_laws_toTerm) (by kernel_rfl) (by kernel_rfl) h
theorem w_laws_toTermS (N : Nat) (a0 : Option Addr) (e0 : List D) (c0 : Nat) (Q : QT [.sl 9]) (h :
Bel N (D.sl a0 9 e0 c0) → (0 ≤ (e0.length : Int) ∧ (e0.length : Int) ≤ (e0.length : Int) ∧ (136 * (e0.length : Int)) ≤ 140737488355328 ∧ (e0.length : Int) ≤ 9223372036854775807)
 ∧ L_laws_toTermS_3 Q N a0 e0 c0 ((e0.length : Int)).toNat ((e0.length : Int)).toNat 0 (List.replicate ((e0.length : Int)).toNat (D.ag [D.lit (.int .i64 0), D.lit
 (.string (bytes [])), D.lit (.string (bytes [])), D.lit (.int .i64 0), D.lit (.int .i64 0), D.sl Option.none 2 [] 0, D.lit (.int .i64 0), D.sl Option.none 2 [] 0,
 D.sl Option.none 9 [] 0])) ((e0.length : Int)).toNat N) : ACalls prog 48 [.sl 9] [PV.sv a0 9 e0 c0] N Q :=
  eE (H := H_laws_toTermS) (by kernel_rfl) (by kernel_rfl) h
theorem l_laws_toTypeS_3 (Q : QT [.sl 2]) (N0 : Nat) (a0 : Option Addr) (e0 : List D) (c0 m3 c3 : Nat) (n4 : Int) (r0 : List D) (q0 : Nat) (N : Nat) (h :
Br (decide (n4 < (e0.length : Int))) ((0 ≤ n4 ∧ n4 < (e0.length : Int)) ∧ ∀ N1, N ≤ N1 → ACalls prog 47 [.ag 2] [.dg 2 (List.getD e0 n4.toNat default)] N1 (fun
 x N2 => N1 ≤ N2 → Bel N2 x → (0 ≤ n4 ∧ n4 < (m3 : Int) ∧ (0 + n4.toNat : Nat) < r0.length) ∧ (0 + n4.toNat : Nat) < r0.length ∧ L_laws_toTypeS_3 Q N0 a0 e0 c0
 m3 c3 (IntKind.i64.wrap (n4 + 1)) (List.set r0 (0 + n4.toNat : Nat) x) q0 N2)) ((m3 = r0.length ∧ c3 = q0) ∧ (m3 = r0.length ∧ c3 = q0) ∧ (m3 = r0.length ∧ c3 =
 q0) ∧ ∀ a N3, N ≤ N3 → Fresh N0 N3 a [D.ag r0] → ∀ N4, N3 ≤ N4 → Q a r0 q0 N4)) : L_laws_toTypeS_3 Q N0 a0 e0 c0 m3 c3 n4 r0 q0 N :=
  hE (H := H_laws_toTypeS) (by kernel_rfl) h
theorem l_laws_toTermS_3 (Q : QT [.sl 9]) (N0 : Nat) (a0 : Option Addr) (e0 : List D) (c0 m3 c3 : Nat) (n4 : Int) (r0 : List D) (q0 : Nat) (N : Nat) (h :
Br (decide (n4 < (e0.length : Int))) ((0 ≤ n4 ∧ n4 < (e0.length : Int)) ∧ ∀ N1, N ≤ N1 → ACalls prog 15 [.ag 9] [.dg 9 (List.getD e0 n4.toNat default)] N1 (fun
 x N2 => N1 ≤ N2 → Bel N2 x → (0 ≤ n4 ∧ n4 < (m3 : Int) ∧ (0 + n4.toNat : Nat) < r0.length) ∧ (0 + n4.toNat : Nat) < r0.length ∧ L_laws_toTermS_3 Q N0 a0 e0 c0
 m3 c3 (IntKind.i64.wrap (n4 + 1)) (List.set r0 (0 + n4.toNat : Nat) x) q0 N2)) ((m3 = r0.length ∧ c3 = q0) ∧ (m3 = r0.length ∧ c3 = q0) ∧ (m3 = r0.length ∧ c3 =
 q0) ∧ ∀ a N3, N ≤ N3 → Fresh N0 N3 a [D.ag r0] → ∀ N4, N3 ≤ N4 → Q a r0 q0 N4)) : L_laws_toTermS_3 Q N0 a0 e0 c0 m3 c3 n4 r0 q0 N :=
  hE (H := H_laws_toTermS) (by kernel_rfl) h

end Go.Proofs.YthfoibejlpfhpaaGreat

/- Printed by gen.py: what the functions come to. -/
set_option linter.unusedVariables false
set_option maxRecDepth 100000
namespace Go.Proofs.YthfoibejlpfhpaaGreat
open Go Go.Proofs Go.Proofs.Tryz
end Go.Proofs.YthfoibejlpfhpaaGreat

/- Printed by gen.py: what the functions come to. -/
set_option linter.unusedVariables false
set_option maxRecDepth 100000
namespace Go.Proofs.YthfoibejlpfhpaaGreat
open Go Go.Proofs Go.Proofs.Tryz
def H_laws_eqType : Hint := ⟨[], [], []⟩
def H_laws_eqTypeS : Hint := ⟨[hc 4 [0, 1, 5]], [], [(6, [en 0, en 1, en 2, en 3, en 4, en 5, en 6, en 7, ec 8 [20, 24], en 9])]⟩
def H_laws_eqTerm : Hint := ⟨[], [], [(9, hs 6 [ec 4 [26, 28]]), (11, hs 6 [ec 4 [32, 34]])]⟩
def H_laws_eqTermS : Hint := ⟨[hc 4 [0, 1, 5]], [], [(6, [en 0, en 1, en 2, en 3, en 4, en 5, en 6, en 7, ec 8 [20, 24], en 9])]⟩
def L_laws_eqTypeS_4 (Q : QT [.bool]) (N0 : Nat) (a0 : Option Addr) (e0 : List D) (c0 : Nat) (a1 : Option Addr) (e1 : List D) (c1 : Nat) (n5 : Int) (N : Nat) : Prop := AT prog 86 [.bool] Q N0 .ord (loopAt prog 86 4) ⟨.sv a0 2 e0 c0 :: .sv a1 2 e1 c1 :: an 3 (.int .i64 n5 :: an 21 []), [], N, none⟩
def L_laws_eqTermS_4 (Q : QT [.bool]) (N0 : Nat) (a0 : Option Addr) (e0 : List D) (c0 : Nat) (a1 : Option Addr) (e1 : List D) (c1 : Nat) (n5 : Int) (N : Nat) : Prop := AT prog 52 [.bool] Q N0 .ord (loopAt prog 52 4) ⟨.sv a0 9 e0 c0 :: .sv a1 9 e1 c1 :: an 3 (.int .i64 n5 :: an 21 []), [], N, none⟩
theorem w_laws_eqType (N : Nat) (x0 x1 : D) (Q : QT [.bool]) (h :
Bel N x0 → Bel N x1 → ∃ n : Int, (x0.cell 0) = D.lit (.int .i64 n) ∧ ∃ n_1 : Int, (x1.cell 0) = D.lit (.int .i64 n_1) ∧ Br (bne n n_1) (∀ N1, N ≤ N1 → Q false
 N1) (∃ a es, ∃ c : Nat, (x0.cell 1) = D.sl a 2 es c ∧ ∃ a_1 es_1, ∃ c_1 : Nat, (x1.cell 1) = D.sl a_1 2 es_1 c_1 ∧ ∀ N2, N ≤ N2 → ACalls prog 86 [.bool] [.sv
 a 2 es c, .sv a_1 2 es_1 c_1] N2 (fun b N3 => N2 ≤ N3 → Br (!b) (∀ N4, N3 ≤ N4 → Q false N4) (∀ N5, N3 ≤ N5 → Q true N5)))) : ACalls prog 51 [.bool] [PV.dg 2 x0, PV.dg 2 x1] N Q :=
  eE (H := H_laws_eqType) (by kernel_rfl) (by kernel_rfl) h
theorem w_laws_eqTypeS (N : Nat) (a0 : Option Addr) (e0 : List D) (c0 : Nat) (a1 : Option Addr) (e1 : List D) (c1 : Nat) (Q : QT [.bool]) (h :
Bel N (D.sl a0 2 e0 c0) → Bel N (D.sl a1 2 e1 c1) → Br (bne (e0.length : Int) (e1.length : Int)) (∀ N1, N ≤ N1 → Q false N1) (L_laws_eqTypeS_4 Q N a0 e0 c0 a1
 e1 c1 0 N)) : ACalls prog 86 [.bool] [PV.sv a0 2 e0 c0, PV.sv a1 2 e1 c1] N Q :=
  eE (H := H_laws_eqTypeS) (by kernel_rfl) (by kernel_rfl) h
theorem w_laws_eqTerm (N : Nat) (x0 x1 : D) (Q : QT [.bool]) (h :
Bel N x0 → Bel N x1 → ∃ n : Int, (x0.cell 0) = D.lit (.int .i64 n) ∧ ∃ n_1 : Int, (x1.cell 0) = D.lit (.int .i64 n_1) ∧ Br (bne n n_1) (∀ N1, N ≤ N1 → Q false
 N1) (∃ s, (x0.cell 1) = D.lit (.string s) ∧ ∃ s_1, (x1.cell 1) = D.lit (.string s_1) ∧ Br (!(ByteArray.toList s == ByteArray.toList s_1)) (∀ N2, N ≤ N2 → Q false
 N2) (∃ s_2, (x0.cell 2) = D.lit (.string s_2) ∧ ∃ s_3, (x1.cell 2) = D.lit (.string s_3) ∧ Br (!(ByteArray.toList s_2 == ByteArray.toList s_3)) (∀ N3, N ≤ N3
 → Q false N3) (∃ n_2 : Int, (x0.cell 3) = D.lit (.int .i64 n_2) ∧ ∃ n_3 : Int, (x1.cell 3) = D.lit (.int .i64 n_3) ∧ Br (bne n_2 n_3) (∀ N4, N ≤ N4 → Q false
 N4) (∀ N5, N ≤ N5 → ACalls prog 51 [.bool] [.dg 2 (D.sub x0 4 2), .dg 2 (D.sub x1 4 2)] N5 (fun b N6 => N5 ≤ N6 → Br (!b) (∀ N7, N6 ≤ N7 → Q false N7)
 (∀ N8, N6 ≤ N8 → ACalls prog 51 [.bool] [.dg 2 (D.sub x0 6 2), .dg 2 (D.sub x1 6 2)] N8 (fun b_1 N9 => N8 ≤ N9 → Br (!b_1) (∀ N10, N9 ≤ N10 → Q false N10)
 (∃ a es, ∃ c : Nat, (x0.cell 8) = D.sl a 9 es c ∧ ∃ a_1 es_1, ∃ c_1 : Nat, (x1.cell 8) = D.sl a_1 9 es_1 c_1 ∧ ∀ N11, N9 ≤ N11 → ACalls prog 52 [.bool] [.sv a
 9 es c, .sv a_1 9 es_1 c_1] N11 (fun b_2 N12 => N11 ≤ N12 → Br (!b_2) (∀ N13, N12 ≤ N13 → Q false N13) (∀ N14, N12 ≤ N14 → Q true N14))))))))))) : ACalls prog 18 [.bool] [PV.dg 9 x0, PV.dg 9 x1] N Q :=
  eE (H := H_laws_eqTerm) (by kernel_rfl) (by kernel_rfl) h
theorem w_laws_eqTermS (N : Nat) (a0 : Option Addr) (e0 : List D) (c0 : Nat) (a1 : Option Addr) (e1 : List D) (c1 : Nat) (Q : QT [.bool]) (h :
Bel N (D.sl a0 9 e0 c0) → Bel N (D.sl a1 9 e1 c1) → Br (bne (e0.length : Int) (e1.length : Int)) (∀ N1, N ≤ N1 → Q false N1) (L_laws_eqTermS_4 Q N a0 e0 c0 a1
 e1 c1 0 N)) : ACalls prog 52 [.bool] [PV.sv a0 9 e0 c0, PV.sv a1 9 e1 c1] N Q :=
  eE (H := H_laws_eqTermS) (by kernel_rfl) (by kernel_rfl) h
theorem l_laws_eqTypeS_4 (Q : QT [.bool]) (N0 : Nat) (a0 : Option Addr) (e0 : List D) (c0 : Nat) (a1 : Option Addr) (e1 : List D) (c1 : Nat) (n5 : Int) (N : Nat) (h :
Br (decide (n5 < (e0.length : Int))) ((0 ≤ n5 ∧ n5 < (e0.length : Int)) ∧ (0 ≤ n5 ∧ n5 < (e1.length : Int)) ∧ ∀ N1, N ≤ N1 → ACalls prog 51 [.bool] [.dg 2 (List.getD
 e0 n5.toNat default), .dg 2 (List.getD e1 n5.toNat default)] N1 (fun b N2 => N1 ≤ N2 → Br (!b) (∀ N3, N2 ≤ N3 → Q false N3) (L_laws_eqTypeS_4 Q N0 a0 e0
 c0 a1 e1 c1 (IntKind.i64.wrap (n5 + 1)) N2))) (∀ N4, N ≤ N4 → Q true N4)) : L_laws_eqTypeS_4 Q N0 a0 e0 c0 a1 e1 c1 n5 N :=
  hE (H := H_laws_eqTypeS) (by kernel_rfl) h
theorem l_laws_eqTermS_4 (Q : QT [.bool]) (N0 : Nat) (a0 : Option Addr) (e0 : List D) (c0 : Nat) (a1 : Option Addr) (e1 : List D) (c1 : Nat) (n5 : Int) (N : Nat) (h :
Br (decide (n5 < (e0.length : Int))) ((0 ≤ n5 ∧ n5 < (e0.length : Int)) ∧ (0 ≤ n5 ∧ n5 < (e1.length : Int)) ∧ ∀ N1, N ≤ N1 → ACalls prog 18 [.bool] [.dg 9 (List.getD
 e0 n5.toNat default), .dg 9 (List.getD e1 n5.toNat default)] N1 (fun b N2 => N1 ≤ N2 → Br (!b) (∀ N3, N2 ≤ N3 → Q false N3) (L_laws_eqTermS_4 Q N0 a0 e0
 c0 a1 e1 c1 (IntKind.i64.wrap (n5 + 1)) N2))) (∀ N4, N ≤ N4 → Q true N4)) : L_laws_eqTermS_4 Q N0 a0 e0 c0 a1 e1 c1 n5 N :=
  hE (H := H_laws_eqTermS) (by kernel_rfl) h

end Go.Proofs.YthfoibejlpfhpaaGreat
