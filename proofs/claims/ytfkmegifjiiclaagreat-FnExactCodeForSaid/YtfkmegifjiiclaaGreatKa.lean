/- Printed by gen.py: what the functions come to. -/
import Derived.Test.YtfkmegifjiiclaaGreatJh
set_option linter.unusedVariables false
set_option maxRecDepth 100000
namespace Go.Proofs.YtfkmegifjiiclaaGreat
open Go Go.Proofs Go.Proofs.Tryz
def H_laws_szType : Hint := ⟨[], [], []⟩
def H_laws_szTypeS : Hint := ⟨[hc 5 [0, 1, 5]], [], [(7, hs 7 [ec 5 [21]])]⟩
def H_laws_szTerm : Hint := ⟨[], [], [(7, hs 5 [ec 3 [20]]), (10, hs 5 [ec 3 [26]])]⟩
def H_laws_szTermS : Hint := ⟨[hc 5 [0, 1, 5]], [], [(7, hs 7 [ec 5 [21]])]⟩
def L_laws_szTypeS_5 (Q : QT [.int .i64]) (N0 : Nat) (a0 : Option Addr) (e0 : List D) (c0 : Nat) (n1 n5 : Int) (N : Nat) : Prop := AT prog 84 [.int .i64] Q N0 .ord (loopAt prog 84 5) ⟨.sv a0 2 e0 c0 :: .int .i64 n1 :: an 3 (.int .i64 n5 :: an 21 []), [], N, none⟩
def L_laws_szTermS_5 (Q : QT [.int .i64]) (N0 : Nat) (a0 : Option Addr) (e0 : List D) (c0 : Nat) (n1 n5 : Int) (N : Nat) : Prop := AT prog 38 [.int .i64] Q N0 .ord (loopAt prog 38 5) ⟨.sv a0 9 e0 c0 :: .int .i64 n1 :: an 3 (.int .i64 n5 :: an 21 []), [], N, none⟩
theorem w_laws_szType (N : Nat) (x0 : D) (n1 : Int) (Q : QT [.int .i64]) (h :
Bel N x0 → ∃ a es, ∃ c : Nat, (x0.cell 1) = D.sl a 2 es c ∧ ∀ N1, N ≤ N1 → ACalls prog 84 [.int .i64] [.sv a 2 es c, .int .i64 n1] N1 (fun n N2 => N1 ≤ N2
 → Br (decide (n < 0)) (∀ N3, N2 ≤ N3 → Q (-1) N3) (∀ N4, N2 ≤ N4 → Q n N4))) : ACalls prog 37 [.int .i64] [PV.dg 2 x0, PV.int .i64 n1] N Q :=
  eE (H := H_laws_szType) (by kernel_rfl) (by kernel_rfl) h
theorem w_laws_szTypeS (N : Nat) (a0 : Option Addr) (e0 : List D) (c0 : Nat) (n1 : Int) (Q : QT [.int .i64]) (h :
Bel N (D.sl a0 2 e0 c0) → Br (decide (IntKind.i64.wrap (n1 - (e0.length : Int)) < 0)) (∀ N1, N ≤ N1 → Q (-1) N1) (L_laws_szTypeS_5 Q N a0 e0 c0 (IntKind.i64.wrap
 (n1 - (e0.length : Int))) 0 N)) : ACalls prog 84 [.int .i64] [PV.sv a0 2 e0 c0, PV.int .i64 n1] N Q :=
  eE (H := H_laws_szTypeS) (by kernel_rfl) (by kernel_rfl) h
theorem w_laws_szTerm (N : Nat) (x0 : D) (n1 : Int) (Q : QT [.int .i64]) (h :
Bel N x0 → ∃ s, (x0.cell 1) = D.lit (.string s) ∧ Br (decide (IntKind.i64.wrap (n1 - (s.size : Int)) < 0)) (∀ N1, N ≤ N1 → Q (-1) N1) (∃ s_1, (x0.cell 2) = D.lit
 (.string s_1) ∧ Br (decide (IntKind.i64.wrap (IntKind.i64.wrap (n1 - (s.size : Int)) - (s_1.size : Int)) < 0)) (∀ N2, N ≤ N2 → Q (-1) N2) (∀ N3, N ≤ N3 → ACalls
 prog 37 [.int .i64] [.dg 2 (D.sub x0 4 2), .int .i64 (IntKind.i64.wrap (IntKind.i64.wrap (n1 - (s.size : Int)) - (s_1.size : Int)))] N3 (fun n N4 => N3 ≤ N4
 → Br (decide (n < 0)) (∀ N5, N4 ≤ N5 → Q (-1) N5) (∀ N6, N4 ≤ N6 → ACalls prog 37 [.int .i64] [.dg 2 (D.sub x0 6 2), .int .i64 n] N6 (fun n_1 N7 => N6
 ≤ N7 → Br (decide (n_1 < 0)) (∀ N8, N7 ≤ N8 → Q (-1) N8) (∃ a es, ∃ c : Nat, (x0.cell 8) = D.sl a 9 es c ∧ ∀ N9, N7 ≤ N9 → ACalls prog 38 [.int .i64] [.sv
 a 9 es c, .int .i64 n_1] N9 (fun n_2 N10 => N9 ≤ N10 → Br (decide (n_2 < 0)) (∀ N11, N10 ≤ N11 → Q (-1) N11) (∀ N12, N10 ≤ N12 → Q n_2 N12))))))))) : ACalls prog 10 [.int .i64] [PV.dg 9 x0, PV.int .i64 n1] N Q :=
  eE (H := H_laws_szTerm) (by kernel_rfl) (by kernel_rfl) h
theorem w_laws_szTermS (N : Nat) (a0 : Option Addr) (e0 : List D) (c0 : Nat) (n1 : Int) (Q : QT [.int .i64]) (h :
Bel N (D.sl a0 9 e0 c0) → Br (decide (IntKind.i64.wrap (n1 - (e0.length : Int)) < 0)) (∀ N1, N ≤ N1 → Q (-1) N1) (L_laws_szTermS_5 Q N a0 e0 c0 (IntKind.i64.wrap
 (n1 - (e0.length : Int))) 0 N)) : ACalls prog 38 [.int .i64] [PV.sv a0 9 e0 c0, PV.int .i64 n1] N Q :=
  eE (H := H_laws_szTermS) (by kernel_rfl) (by kernel_rfl) h
theorem l_laws_szTypeS_5 (Q : QT [.int .i64]) (N0 : Nat) (a0 : Option Addr) (e0 : List D) (c0 : Nat) (n1 n5 : Int) (N : Nat) (h :
Br (decide (n5 < (e0.length : Int))) ((0 ≤ n5 ∧ n5 < (e0.length : Int)) ∧ ∀ N1, N ≤ N1 → ACalls prog 37 [.int .i64] [.dg 2 (List.getD e0 n5.toNat default), .int
 .i64 n1] N1 (fun n N2 => N1 ≤ N2 → Br (decide (n < 0)) (∀ N3, N2 ≤ N3 → Q (-1) N3) (L_laws_szTypeS_5 Q N0 a0 e0 c0 n (IntKind.i64.wrap (n5 + 1)) N2))) (∀
 N4, N ≤ N4 → Q n1 N4)) : L_laws_szTypeS_5 Q N0 a0 e0 c0 n1 n5 N :=
  hE (H := H_laws_szTypeS) (by kernel_rfl) h
theorem l_laws_szTermS_5 (Q : QT [.int .i64]) (N0 : Nat) (a0 : Option Addr) (e0 : List D) (c0 : Nat) (n1 n5 : Int) (N : Nat) (h :
Br (decide (n5 < (e0.length : Int))) ((0 ≤ n5 ∧ n5 < (e0.length : Int)) ∧ ∀ N1, N ≤ N1 → ACalls prog 10 [.int .i64] [.dg 9 (List.getD e0 n5.toNat default), .int
 .i64 n1] N1 (fun n N2 => N1 ≤ N2 → Br (decide (n < 0)) (∀ N3, N2 ≤ N3 → Q (-1) N3) (L_laws_szTermS_5 Q N0 a0 e0 c0 n (IntKind.i64.wrap (n5 + 1)) N2))) (∀
 N4, N ≤ N4 → Q n1 N4)) : L_laws_szTermS_5 Q N0 a0 e0 c0 n1 n5 N :=
  hE (H := H_laws_szTermS) (by kernel_rfl) h

end Go.Proofs.YtfkmegifjiiclaaGreat

/- Printed by gen.py: what the functions come to. -/
set_option linter.unusedVariables false
set_option maxRecDepth 100000
namespace Go.Proofs.YtfkmegifjiiclaaGreat
open Go Go.Proofs Go.Proofs.Tryz
def H_laws_toType : Hint := ⟨[], [], []⟩
def H_laws_toTypeS : Hint := ⟨[hc 3 [0, 3, 4]], [], [(5, hs 9 [ec 6 [19]])]⟩
def H_laws_toTerm : Hint := ⟨[], [], [(6, hs 5 [ec 2 [17]]), (7, hs 5 [ec 2 [21]])]⟩
def H_laws_toTermS : Hint := ⟨[hc 3 [0, 3, 4]], [], [(5, hs 9 [ec 6 [19]])]⟩
def L_laws_toTypeS_3 (Q : QT [.sl 2]) (N0 : Nat) (a0 : Option Addr) (e0 : List D) (c0 m3 c3 : Nat) (n4 : Int) (r0 : List D) (q0 : Nat) (N : Nat) : Prop := AT prog 94 [.sl 2] Q N0 .ord (loopAt prog 94 3) ⟨.sv a0 2 e0 c0 :: an 2 (.sb 0 2 0 m3 c3 :: .int .i64 n4 :: an 18 []), [.arr 33 2 r0 q0], N, none⟩
def L_laws_toTermS_3 (Q : QT [.sl 9]) (N0 : Nat) (a0 : Option Addr) (e0 : List D) (c0 m3 c3 : Nat) (n4 : Int) (r0 : List D) (q0 : Nat) (N : Nat) : Prop := AT prog 44 [.sl 9] Q N0 .ord (loopAt prog 44 3) ⟨.sv a0 9 e0 c0 :: an 2 (.sb 0 9 0 m3 c3 :: .int .i64 n4 :: an 18 []), [.arr 36 9 r0 q0], N, none⟩
theorem w_laws_toType (N : Nat) (x0 : D) (Q : QT [.ag 2]) (h :
Bel N x0 → ∃ n : Int, (x0.cell 0) = D.lit (.int .i64 n) ∧ ∃ a es, ∃ c : Nat, (x0.cell 1) = D.sl a 2 es c ∧ ∀ N1, N ≤ N1 → ACalls prog 94 [.sl 2] [.sv a 2 es c]
 N1 (fun a_1 es_1 c_1 N2 => N1 ≤ N2 → Bel N2 (D.sl a_1 2 es_1 c_1) → ∀ N3, N2 ≤ N3 → Q (D.ag [D.lit (.int .i64 n), D.sl a_1 2 es_1 c_1]) N3)) : ACalls prog 43 [.ag 2] [PV.dg 2 x0] N Q :=
  eE (H := H_laws_toType) (by kernel_rfl) (by kernel_rfl) h
theorem w_laws_toTypeS (N : Nat) (a0 : Option Addr) (e0 : List D) (c0 : Nat) (Q : QT [.sl 2]) (h :
Bel N (D.sl a0 2 e0 c0) → (0 ≤ (e0.length : Int) ∧ (e0.length : Int) ≤ (e0.length : Int) ∧ (32 * (e0.length : Int)) ≤ 140737488355328 ∧ (e0.length : Int) ≤ 9223372036854775807)
 ∧ L_laws_toTypeS_3 Q N a0 e0 c0 ((e0.length : Int)).toNat ((e0.length : Int)).toNat 0 (List.replicate ((e0.length : Int)).toNat (D.ag [D.lit (.int .i64 0), D.sl
 Option.none 2 [] 0])) ((e0.length : Int)).toNat N) : ACalls prog 94 [.sl 2] [PV.sv a0 2 e0 c0] N Q :=
  eE (H := H_laws_toTypeS) (by kernel_rfl) (by kernel_rfl) h
theorem w_laws_toTerm (N : Nat) (x0 : D) (Q : QT [.ag 9]) (h :
Bel N x0 → ∃ n : Int, (x0.cell 0) = D.lit (.int .i64 n) ∧ ∃ s, (x0.cell 1) = D.lit (.string s) ∧ ∃ s_1, (x0.cell 2) = D.lit (.string s_1) ∧ ∃ n_1 : Int, (x0.cell
 3) = D.lit (.int .i64 n_1) ∧ ∀ N1, N ≤ N1 → ACalls prog 43 [.ag 2] [.dg 2 (D.sub x0 4 2)] N1 (fun x N2 => N1 ≤ N2 → Bel N2 x → ∀ N3, N2 ≤ N3 → ACalls prog
 43 [.ag 2] [.dg 2 (D.sub x0 6 2)] N3 (fun x_1 N4 => N3 ≤ N4 → Bel N4 x_1 → ∃ a es, ∃ c : Nat, (x0.cell 8) = D.sl a 9 es c ∧ ∀ N5, N4 ≤ N5 → ACalls prog 44
 [.sl 9] [.sv a 9 es c] N5 (fun a_1 es_1 c_1 N6 => N5 ≤ N6 → Bel N6 (D.sl a_1 9 es_1 c_1) → ∀ N7, N6 ≤ N7 → Q (D.ag [D.lit (.int .i64 n), D.lit (.string s),
 D.lit (.string s_1), D.lit (.int .i64 n_1), (x.cell 0), (x.cell 1), (x_1.cell 0), (x_1.cell 1), D.sl a_1 9 es_1 c_1]) N7)))) : ACalls prog 13 [.ag 9] [PV.dg 9 x0] N Q :=
  eE (H := H_laws_toTerm) (by kernel_rfl) (by kernel_rfl) h
theorem w_laws_toTermS (N : Nat) (a0 : Option Addr) (e0 : List D) (c0 : Nat) (Q : QT [.sl 9]) (h :
Bel N (D.sl a0 9 e0 c0) → (0 ≤ (e0.length : Int) ∧ (e0.length : Int) ≤ (e0.length : Int) ∧ (136 * (e0.length : Int)) ≤ 140737488355328 ∧ (e0.length : Int) ≤ 9223372036854775807)
 ∧ L_laws_toTermS_3 Q N a0 e0 c0 ((e0.length : Int)).toNat ((e0.length : Int)).toNat 0 (List.replicate ((e0.length : Int)).toNat (D.ag [D.lit (.int .i64 0), D.lit
 (.string (bytes [])), D.lit (.string (bytes [])), D.lit (.int .i64 0), D.lit (.int .i64 0), D.sl Option.none 2 [] 0, D.lit (.int .i64 0), D.sl Option.none 2 [] 0,
 D.sl Option.none 9 [] 0])) ((e0.length : Int)).toNat N) : ACalls prog 44 [.sl 9] [PV.sv a0 9 e0 c0] N Q :=
  eE (H := H_laws_toTermS) (by kernel_rfl) (by kernel_rfl) h
theorem l_laws_toTypeS_3 (Q : QT [.sl 2]) (N0 : Nat) (a0 : Option Addr) (e0 : List D) (c0 m3 c3 : Nat) (n4 : Int) (r0 : List D) (q0 : Nat) (N : Nat) (h :
Br (decide (n4 < (e0.length : Int))) ((0 ≤ n4 ∧ n4 < (e0.length : Int)) ∧ ∀ N1, N ≤ N1 → ACalls prog 43 [.ag 2] [.dg 2 (List.getD e0 n4.toNat default)] N1 (fun
 x N2 => N1 ≤ N2 → Bel N2 x → (0 ≤ n4 ∧ n4 < (m3 : Int) ∧ (0 + n4.toNat : Nat) < r0.length) ∧ (0 + n4.toNat : Nat) < r0.length ∧ L_laws_toTypeS_3 Q N0 a0 e0 c0
 m3 c3 (IntKind.i64.wrap (n4 + 1)) (List.set r0 (0 + n4.toNat : Nat) x) q0 N2)) ((m3 = r0.length ∧ c3 = q0) ∧ (m3 = r0.length ∧ c3 = q0) ∧ (m3 = r0.length ∧ c3 =
 q0) ∧ ∀ a N3, N ≤ N3 → Fresh N0 N3 a [D.ag r0] → ∀ N4, N3 ≤ N4 → Q a r0 q0 N4)) : L_laws_toTypeS_3 Q N0 a0 e0 c0 m3 c3 n4 r0 q0 N :=
  hE (H := H_laws_toTypeS) (by kernel_rfl) h
theorem l_laws_toTermS_3 (Q : QT [.sl 9]) (N0 : Nat) (a0 : Option Addr) (e0 : List D) (c0 m3 c3 : Nat) (n4 : Int) (r0 : List D) (q0 : Nat) (N : Nat) (h :
Br (decide (n4 < (e0.length : Int))) ((0 ≤ n4 ∧ n4 < (e0.length : Int)) ∧ ∀ N1, N ≤ N1 → ACalls prog 13 [.ag 9] [.dg 9 (List.getD e0 n4.toNat default)] N1 (fun
 x N2 => N1 ≤ N2 → Bel N2 x → (0 ≤ n4 ∧ n4 < (m3 : Int) ∧ (0 + n4.toNat : Nat) < r0.length) ∧ (0 + n4.toNat : Nat) < r0.length ∧ L_laws_toTermS_3 Q N0 a0 e0 c0
 m3 c3 (IntKind.i64.wrap (n4 + 1)) (List.set r0 (0 + n4.toNat : Nat) x) q0 N2)) ((m3 = r0.length ∧ c3 = q0) ∧ (m3 = r0.length ∧ c3 = q0) ∧ (m3 = r0.length ∧ c3 =
 q0) ∧ ∀ a N3, N ≤ N3 → Fresh N0 N3 a [D.ag r0] → ∀ N4, N3 ≤ N4 → Q a r0 q0 N4)) : L_laws_toTermS_3 Q N0 a0 e0 c0 m3 c3 n4 r0 q0 N :=
  hE (H := H_laws_toTermS) (by kernel_rfl) h

end Go.Proofs.YtfkmegifjiiclaaGreat

/- Printed by gen.py: what the functions come to. -/
set_option linter.unusedVariables false
set_option maxRecDepth 100000
namespace Go.Proofs.YtfkmegifjiiclaaGreat
open Go Go.Proofs Go.Proofs.Tryz
def H_laws_markTypeS : Hint := ⟨[hc 2 [0, 1, 5]], [], [(6, hs 8 [em 6 (some 22) [0, 1, 5]])]⟩
def H_laws_markType : Hint := ⟨[], [], [(1, hs 5 [em 3 (some 5) [1]])]⟩
def H_laws_heldTypeS : Hint := ⟨[hc 2 [0, 1, 5]], [], []⟩
def H_laws_heldType : Hint := ⟨[], [], []⟩
def H_laws_markText : Hint := ⟨[hc 4 [0, 3]], [], []⟩
def H_laws_markTermS : Hint := ⟨[hc 2 [0, 1, 5]], [], [(14, hs 9 [em 7 (some 54) [0, 1, 5]]), (17, hs 9 [em 7 (some 70) [0, 1, 5]]), (18, hs 8 [em 6 (some 77) [0, 1, 5]])]⟩
def H_laws_markTerm : Hint := ⟨[], [], [(1, hs 5 [em 3 (some 5) [1, 2]]), (2, hs 5 [em 3 (some 9) [1, 2]]), (3, hs 5 [em 3 (some 13) [1]])]⟩
def L_laws_markTypeS_2 (Q : QT [.int .i64]) (N0 : Nat) (a0 : Option Addr) (e0 : List D) (c0 : Nat) (n1 n5 : Int) (N : Nat) : Prop := AT prog 51 [.int .i64] Q N0 .ord (loopAt prog 51 2) ⟨.sv a0 2 e0 c0 :: .int .i64 n1 :: an 3 (.int .i64 n5 :: an 21 []), [], N, none⟩
def L_laws_markTypeS_2_v1 (T : List Nat) (b0 : Nat) (QM : Int → D → Nat → Prop) (N0 : Nat) (m0 c0 : Nat) (n1 n5 : Int) (t0 : Nat) (r0 : List D) (q0 : Nat) (N : Nat) : Prop := AT prog 51 [] noQ N0 (.mk T (some b0) (2, 0) QM) (loopAt prog 51 2) ⟨.sb 0 2 0 m0 c0 :: .int .i64 n1 :: an 3 (.int .i64 n5 :: an 21 []), [.arr t0 2 r0 q0], N, some ([some b0], T)⟩
def L_laws_heldTypeS_2 (Q : QT [.int .i64]) (N0 : Nat) (a0 : Option Addr) (e0 : List D) (c0 : Nat) (n1 n5 : Int) (N : Nat) : Prop := AT prog 83 [.int .i64] Q N0 .ord (loopAt prog 83 2) ⟨.sv a0 2 e0 c0 :: .int .i64 n1 :: an 3 (.int .i64 n5 :: an 25 []), [], N, none⟩
def L_laws_markText_4 (Q : QT [.str]) (N0 : Nat) (n0 : Int) (s3 : ByteArray) (N : Nat) : Prop := AT prog 50 [.str] Q N0 .ord (loopAt prog 50 4) ⟨.int .i64 n0 :: an 2 (.str s3 :: an 16 []), [], N, none⟩
def L_laws_markTermS_2 (Q : QT [.int .i64]) (N0 : Nat) (a0 : Option Addr) (e0 : List D) (c0 : Nat) (n1 n5 : Int) (N : Nat) : Prop := AT prog 34 [.int .i64] Q N0 .ord (loopAt prog 34 2) ⟨.sv a0 9 e0 c0 :: .int .i64 n1 :: an 3 (.int .i64 n5 :: an 76 []), [], N, none⟩
def L_laws_markTermS_2_v1 (T : List Nat) (b0 : Nat) (QM : Int → D → Nat → Prop) (N0 : Nat) (m0 c0 : Nat) (n1 n5 : Int) (t0 : Nat) (r0 : List D) (q0 : Nat) (N : Nat) : Prop := AT prog 34 [] noQ N0 (.mk T (some b0) (9, 0) QM) (loopAt prog 34 2) ⟨.sb 0 9 0 m0 c0 :: .int .i64 n1 :: an 3 (.int .i64 n5 :: an 76 []), [.arr t0 9 r0 q0], N, some ([some b0], T)⟩
theorem w_laws_markTypeS (N : Nat) (a0 : Option Addr) (e0 : List D) (c0 : Nat) (n1 : Int) (Q : QT [.int .i64]) (h :
Bel N (D.sl a0 2 e0 c0) → L_laws_markTypeS_2 Q N a0 e0 c0 n1 0 N) : ACalls prog 51 [.int .i64] [PV.sv a0 2 e0 c0, PV.int .i64 n1] N Q :=
 eE (H := H_laws_markTypeS) (by kernel_rfl) (by kernel_rfl) h
theorem m_laws_markTypeS (N : Nat) (ad : Addr) (e0 : List D) (c0 : Nat) (n1 : Int) (R : D → Int → Nat → Prop) (QM : Int → D → Nat → Prop) (htree : Tree (.sl (some ad) 2 e0 c0)) (hne : e0 ≠ []) (hlen : e0.length ≤ maxLen) (h : ∀ t : Nat,
L_laws_markTypeS_2_v1 (D.foot (D.sl (Option.some ad) 2 e0 c0)) (Addr.block ad) QM N e0.length c0 n1 0 t e0 e0.length N)
  (hQ : ∀ k x N, QM k x N → ∃ es, x = .ag es ∧ es.length = e0.length ∧ footL es = footL e0 ∧ R (.sl (some ad) 2 es c0) k N) : MC prog 51 (.sl (some ad) 2 e0 c0) n1 N R :=
 mcsE (sh := sh) (H := H_laws_markTypeS) (fuel := 400) (by kernel_rfl) (by kernel_rfl) (fun t => by kernel_rfl) htree hne hlen h hQ
theorem m_laws_markType (N : Nat) (cs : List D) (n1 : Int) (R : D → Int → Nat → Prop) (QM : Int → D → Nat → Prop) (hag : IsAg 2 (.ag cs)) (h :
∃ a es, ∃ c : Nat, D.cell (D.ag cs) 1 = D.sl a 2 es c ∧ Tree (D.sl a 2 es c) ∧ In (D.foot (D.ag cs)) (D.sl a 2 es c) ∧ 1 < (D.cells (D.ag cs)).length ∧ D.cell (D.ag
 cs) 1 = D.sl a 2 es c ∧ Once (D.cells (D.ag cs)) ∧ Dis (D.sl a 2 es c) [] ∧ ∀ N1, N ≤ N1 → MC prog 51 (D.sl a 2 es c) n1 N1 (fun x n N2 => N1 ≤ N2 → ∀ N3,
 N2 ≤ N3 → QM n (D.ag (putD 1 [x] (D.cells (D.ag cs)))) N3))
    (hQ : ∀ k x N, QM k x N → ∃ cs2, x = .ag cs2 ∧ cs2.map D.cv = cs.map D.cv ∧ footL cs2 = footL cs ∧ R (.ag cs2) k N) : MC prog 52 (.ag cs) n1 N R :=
  mctE (sh := sh) (H := H_laws_markType) (fuel := 400) (xr := (2, 33)) (by kernel_rfl) (by kernel_rfl) (by kernel_rfl) hag h hQ
theorem w_laws_heldTypeS (N : Nat) (a0 : Option Addr) (e0 : List D) (c0 : Nat) (n1 : Int) (Q : QT [.int .i64]) (h :
Bel N (D.sl a0 2 e0 c0) → L_laws_heldTypeS_2 Q N a0 e0 c0 n1 0 N) : ACalls prog 83 [.int .i64] [PV.sv a0 2 e0 c0, PV.int .i64 n1] N Q :=
 eE (H := H_laws_heldTypeS) (by kernel_rfl) (by kernel_rfl) h
theorem w_laws_heldType (N : Nat) (x0 : D) (n1 : Int) (Q : QT [.int .i64]) (h :
Bel N x0 → ∃ a es, ∃ c : Nat, (x0.cell 1) = D.sl a 2 es c ∧ ∀ N1, N ≤ N1 → ACalls prog 83 [.int .i64] [.sv a 2 es c, .int .i64 n1] N1 (fun n N2 => N1 ≤ N2
 → Br (decide (n < 0)) (∀ N3, N2 ≤ N3 → Q (-1) N3) (∀ N4, N2 ≤ N4 → Q n N4))) : ACalls prog 53 [.int .i64] [PV.dg 2 x0, PV.int .i64 n1] N Q :=
  eE (H := H_laws_heldType) (by kernel_rfl) (by kernel_rfl) h
theorem w_laws_markText (N : Nat) (n0 : Int) (Q : QT [.str]) (h :
Br (decide (n0 ≤ 0)) (∀ N1, N ≤ N1 → Q (bytes [109, 48]) N1) (L_laws_markText_4 Q N n0 (bytes []) N)) : ACalls prog 50 [.str] [PV.int .i64 n0] N Q :=
 eE (H := H_laws_markText) (by kernel_rfl) (by kernel_rfl) h
theorem w_laws_markTermS (N : Nat) (a0 : Option Addr) (e0 : List D) (c0 : Nat) (n1 : Int) (Q : QT [.int .i64]) (h :
Bel N (D.sl a0 9 e0 c0) → L_laws_markTermS_2 Q N a0 e0 c0 n1 0 N) : ACalls prog 34 [.int .i64] [PV.sv a0 9 e0 c0, PV.int .i64 n1] N Q :=
 eE (H := H_laws_markTermS) (by kernel_rfl) (by kernel_rfl) h
theorem m_laws_markTermS (N : Nat) (ad : Addr) (e0 : List D) (c0 : Nat) (n1 : Int) (R : D → Int → Nat → Prop) (QM : Int → D → Nat → Prop) (htree : Tree (.sl (some ad) 9 e0 c0)) (hne : e0 ≠ []) (hlen : e0.length ≤ maxLen) (h : ∀ t : Nat,
L_laws_markTermS_2_v1 (D.foot (D.sl (Option.some ad) 9 e0 c0)) (Addr.block ad) QM N e0.length c0 n1 0 t e0 e0.length N)
  (hQ : ∀ k x N, QM k x N → ∃ es, x = .ag es ∧ es.length = e0.length ∧ footL es = footL e0 ∧ R (.sl (some ad) 9 es c0) k N) : MC prog 34 (.sl (some ad) 9 e0 c0) n1 N R :=
 mcsE (sh := sh) (H := H_laws_markTermS) (fuel := 400) (by kernel_rfl) (by kernel_rfl) (fun t => by kernel_rfl) htree hne hlen h hQ
theorem m_laws_markTerm (N : Nat) (cs : List D) (n1 : Int) (R : D → Int → Nat → Prop) (QM : Int → D → Nat → Prop) (hag : IsAg 9 (.ag cs)) (h :
Tree (D.sub (D.ag cs) 4 2) ∧ In (D.foot (D.ag cs)) (D.sub (D.ag cs) 4 2) ∧ 6 ≤ (D.cells (D.ag cs)).length ∧ D.sub (D.ag cs) 4 2 = D.sub (D.ag cs) 4 2 ∧ Once (D.cells
 (D.ag cs)) ∧ Dis (D.sub (D.ag cs) 4 2) [] ∧ ∀ N1, N ≤ N1 → MC prog 52 (D.sub (D.ag cs) 4 2) n1 N1 (fun x n N2 => N1 ≤ N2 → Tree (D.sub (D.ag (putD 4 (D.cells
 x) (D.cells (D.ag cs)))) 6 2) ∧ In (D.foot (D.ag cs)) (D.sub (D.ag (putD 4 (D.cells x) (D.cells (D.ag cs)))) 6 2) ∧ 8 ≤ (D.cells (D.ag (putD 4 (D.cells x) (D.cells
 (D.ag cs))))).length ∧ D.sub (D.ag (putD 4 (D.cells x) (D.cells (D.ag cs)))) 6 2 = D.sub (D.ag (putD 4 (D.cells x) (D.cells (D.ag cs)))) 6 2 ∧ Once (D.cells (D.ag
 (putD 4 (D.cells x) (D.cells (D.ag cs))))) ∧ Dis (D.sub (D.ag (putD 4 (D.cells x) (D.cells (D.ag cs)))) 6 2) [] ∧ ∀ N3, N2 ≤ N3 → MC prog 52 (D.sub (D.ag (putD
 4 (D.cells x) (D.cells (D.ag cs)))) 6 2) n N3 (fun x_1 n_1 N4 => N3 ≤ N4 → ∃ a es, ∃ c : Nat, D.cell (D.ag (putD 6 (D.cells x_1) (D.cells (D.ag (putD 4 (D.cells
 x) (D.cells (D.ag cs))))))) 8 = D.sl a 9 es c ∧ Tree (D.sl a 9 es c) ∧ In (D.foot (D.ag cs)) (D.sl a 9 es c) ∧ 8 < (D.cells (D.ag (putD 6 (D.cells x_1) (D.cells
 (D.ag (putD 4 (D.cells x) (D.cells (D.ag cs)))))))).length ∧ D.cell (D.ag (putD 6 (D.cells x_1) (D.cells (D.ag (putD 4 (D.cells x) (D.cells (D.ag cs))))))) 8 = D.sl
 a 9 es c ∧ Once (D.cells (D.ag (putD 6 (D.cells x_1) (D.cells (D.ag (putD 4 (D.cells x) (D.cells (D.ag cs)))))))) ∧ Dis (D.sl a 9 es c) [] ∧ ∀ N5, N4 ≤ N5 → MC
 prog 34 (D.sl a 9 es c) n_1 N5 (fun x_2 n_2 N6 => N5 ≤ N6 → ∀ N7, N6 ≤ N7 → QM n_2 (D.ag (putD 8 [x_2] (D.cells (D.ag (putD 6 (D.cells x_1) (D.cells (D.ag
 (putD 4 (D.cells x) (D.cells (D.ag cs)))))))))) N7))))
   (hQ : ∀ k x N, QM k x N → ∃ cs2, x = .ag cs2 ∧ cs2.map D.cv = cs.map D.cv ∧ footL cs2 = footL cs ∧ R (.ag cs2) k N) : MC prog 18 (.ag cs) n1 N R :=
  mctE (sh := sh) (H := H_laws_markTerm) (fuel := 400) (xr := (2, 36)) (by kernel_rfl) (by kernel_rfl) (by kernel_rfl) hag h hQ
theorem l_laws_markTypeS_2 (Q : QT [.int .i64]) (N0 : Nat) (a0 : Option Addr) (e0 : List D) (c0 : Nat) (n1 n5 : Int) (N : Nat) (h :
Br (decide (n5 < (e0.length : Int))) ((0 ≤ n5 ∧ n5 < (e0.length : Int)) ∧ False) (∀ N1, N ≤ N1 → Q n1 N1)) : L_laws_markTypeS_2 Q N0 a0 e0 c0 n1 n5 N :=
 hE (H := H_laws_markTypeS) (by kernel_rfl) h
theorem l_laws_markTypeS_2_v1 (T : List Nat) (b0 : Nat) (QM : Int → D → Nat → Prop) (N0 : Nat) (m0 c0 : Nat) (n1 n5 : Int) (t0 : Nat) (r0 : List D) (q0 : Nat) (N : Nat) (h :
Br (decide (n5 < (m0 : Int))) ((0 ≤ n5 ∧ n5 < (m0 : Int) ∧ (0 + n5.toNat : Nat) < r0.length) ∧ (0 + n5.toNat : Nat) < r0.length ∧ (0 ≤ n5 ∧ n5 < (m0 : Int) ∧ (0
 + n5.toNat : Nat) < (List.set r0 (0 + n5.toNat : Nat) (D.ag (putD 0 [D.lit (.int .i64 n1)] (D.cells (List.getD r0 (0 + n5.toNat : Nat) default))))).length) ∧ (0
 + n5.toNat : Nat) < (List.set r0 (0 + n5.toNat : Nat) (D.ag (putD 0 [D.lit (.int .i64 n1)] (D.cells (List.getD r0 (0 + n5.toNat : Nat) default))))).length ∧ ∃ a
 es, ∃ c : Nat, D.cell (List.getD (List.set r0 (0 + n5.toNat : Nat) (D.ag (putD 0 [D.lit (.int .i64 n1)] (D.cells (List.getD r0 (0 + n5.toNat : Nat) default)))))
 (0 + n5.toNat : Nat) default) 1 = D.sl a 2 es c ∧ Tree (D.sl a 2 es c) ∧ In T (D.sl a 2 es c) ∧ (0 + n5.toNat : Nat) < (List.set r0 (0 + n5.toNat : Nat) (D.ag (putD
 0 [D.lit (.int .i64 n1)] (D.cells (List.getD r0 (0 + n5.toNat : Nat) default))))).length ∧ 1 < (D.cells (List.getD (List.set r0 (0 + n5.toNat : Nat) (D.ag (putD
 0 [D.lit (.int .i64 n1)] (D.cells (List.getD r0 (0 + n5.toNat : Nat) default))))) (0 + n5.toNat : Nat) default)).length ∧ D.cell (List.getD (List.set r0 (0 + n5.toNat
 : Nat) (D.ag (putD 0 [D.lit (.int .i64 n1)] (D.cells (List.getD r0 (0 + n5.toNat : Nat) default))))) (0 + n5.toNat : Nat) default) 1 = D.sl a 2 es c ∧ Once (List.set
 r0 (0 + n5.toNat : Nat) (D.ag (putD 0 [D.lit (.int .i64 n1)] (D.cells (List.getD r0 (0 + n5.toNat : Nat) default))))) ∧ Dis (D.sl a 2 es c) [] ∧ ∀ N1, N ≤ N1 →
 MC prog 51 (D.sl a 2 es c) (IntKind.i64.wrap (n1 + 1)) N1 (fun x n N2 => N1 ≤ N2 → L_laws_markTypeS_2_v1 T b0 QM N0 m0 c0 n (IntKind.i64.wrap (n5 + 1)) t0 (List.set
 (List.set r0 (0 + n5.toNat : Nat) (D.ag (putD 0 [D.lit (.int .i64 n1)] (D.cells (List.getD r0 (0 + n5.toNat : Nat) default))))) (0 + n5.toNat : Nat) (D.ag (putD
 1 [x] (D.cells (List.getD (List.set r0 (0 + n5.toNat : Nat) (D.ag (putD 0 [D.lit (.int .i64 n1)] (D.cells (List.getD r0 (0 + n5.toNat : Nat) default))))) (0 + n5.toNat
 : Nat) default))))) q0 N2)) (b0 = b0 ∧ ∀ N3, N ≤ N3 → QM n1 (D.ag r0) N3)) : L_laws_markTypeS_2_v1 T b0 QM N0 m0 c0 n1 n5 t0 r0 q0 N :=
  hE (H := H_laws_markTypeS) (by kernel_rfl) h
theorem l_laws_heldTypeS_2 (Q : QT [.int .i64]) (N0 : Nat) (a0 : Option Addr) (e0 : List D) (c0 : Nat) (n1 n5 : Int) (N : Nat) (h :
Br (decide (n5 < (e0.length : Int))) ((0 ≤ n5 ∧ n5 < (e0.length : Int)) ∧ ∃ n : Int, (if 0 = 0 then D.cell (List.getD e0 n5.toNat default) 0 else D.sub (List.getD
 e0 n5.toNat default) 0 0) = D.lit (.int .i64 n) ∧ Br (bne n n1) (∀ N1, N ≤ N1 → Q (-1) N1) ((0 ≤ n5 ∧ n5 < (e0.length : Int)) ∧ ∃ a es, ∃ c : Nat, (if 0 = 0 then
 D.cell (List.getD e0 n5.toNat default) 1 else D.sub (List.getD e0 n5.toNat default) 1 0) = D.sl a 2 es c ∧ ∀ N2, N ≤ N2 → ACalls prog 83 [.int .i64] [.sv a 2 es
 c, .int .i64 (IntKind.i64.wrap (n1 + 1))] N2 (fun n_1 N3 => N2 ≤ N3 → Br (decide (n_1 < 0)) (∀ N4, N3 ≤ N4 → Q (-1) N4) (L_laws_heldTypeS_2 Q N0 a0 e0 c0
 n_1 (IntKind.i64.wrap (n5 + 1)) N3)))) (∀ N5, N ≤ N5 → Q n1 N5)) : L_laws_heldTypeS_2 Q N0 a0 e0 c0 n1 n5 N :=
  hE (H := H_laws_heldTypeS) (by kernel_rfl) h
theorem l_laws_markText_4 (Q : QT [.str]) (N0 : Nat) (n0 : Int) (s3 : ByteArray) (N : Nat) (h :
Br (decide (n0 > 0)) ((10 : Int) ≠ (0 : Int) ∧ 1 ≤ ([D.lit (.int IntKind.u8 (IntKind.u8.wrap (IntKind.i64.wrap (48 + Int.tmod n0 10))))]).length ∧ ∃ es : List Int,
 List.take 1 [D.lit (.int IntKind.u8 (IntKind.u8.wrap (IntKind.i64.wrap (48 + Int.tmod n0 10))))] = List.map (fun n => D.lit (.int IntKind.u8 n)) es ∧ (ByteArray.size
 (bytesOf es) + s3.size : Nat) ≤ 9223372036854775807 ∧ (10 : Int) ≠ (0 : Int) ∧ L_laws_markText_4 Q N0 (IntKind.i64.wrap (Int.tdiv n0 10)) (bytesOf es ++ s3) N) ((1
 + s3.size : Nat) ≤ 9223372036854775807 ∧ ∀ N1, N ≤ N1 → Q (bytes [109] ++ s3) N1)) : L_laws_markText_4 Q N0 n0 s3 N :=
  hE (H := H_laws_markText) (by kernel_rfl) h
theorem l_laws_markTermS_2 (Q : QT [.int .i64]) (N0 : Nat) (a0 : Option Addr) (e0 : List D) (c0 : Nat) (n1 n5 : Int) (N : Nat) (h :
Br (decide (n5 < (e0.length : Int))) ((0 ≤ n5 ∧ n5 < (e0.length : Int)) ∧ False) (∀ N1, N ≤ N1 → Q n1 N1)) : L_laws_markTermS_2 Q N0 a0 e0 c0 n1 n5 N :=
 hE (H := H_laws_markTermS) (by kernel_rfl) h
theorem l_laws_markTermS_2_v1 (T : List Nat) (b0 : Nat) (QM : Int → D → Nat → Prop) (N0 : Nat) (m0 c0 : Nat) (n1 n5 : Int) (t0 : Nat) (r0 : List D) (q0 : Nat) (N : Nat) (h :
let r_1 : List D := (List.set r0 (0 + n5.toNat : Nat) (D.ag (putD 0 [D.lit (.int .i64 n1)] (D.cells (List.getD r0 (0 + n5.toNat : Nat) default))))); Br (decide (n5
 < (m0 : Int))) ((0 ≤ n5 ∧ n5 < (m0 : Int) ∧ (0 + n5.toNat : Nat) < r0.length) ∧ (0 + n5.toNat : Nat) < r0.length ∧ ∀ N1, N ≤ N1 → ACalls prog 50 [.str] [.int .i64
 (IntKind.i64.wrap (n1 + 1))] N1 (fun s => let r_2 : List D := (List.set r_1 (0 + n5.toNat : Nat) (D.ag (putD 1 [D.lit (.string s)] (D.cells (List.getD r_1 (0 +
 n5.toNat : Nat) default))))); fun N2 => N1 ≤ N2 → (0 ≤ n5 ∧ n5 < (m0 : Int) ∧ (0 + n5.toNat : Nat) < r_1.length) ∧ (0 + n5.toNat : Nat) < r_1.length ∧ ∀ N3,
 N2 ≤ N3 → ACalls prog 50 [.str] [.int .i64 (IntKind.i64.wrap (IntKind.i64.wrap (n1 + 1) + 1))] N3 (fun s_1 => let r_3 : List D := (List.set r_2 (0 + n5.toNat
 : Nat) (D.ag (putD 2 [D.lit (.string s_1)] (D.cells (List.getD r_2 (0 + n5.toNat : Nat) default))))); let r_4 : List D := (List.set r_3 (0 + n5.toNat : Nat) (D.ag
 (putD 3 [D.lit (.int .i64 (IntKind.i64.wrap (IntKind.i64.wrap (IntKind.i64.wrap (n1 + 1) + 1) + 1)))] (D.cells (List.getD r_3 (0 + n5.toNat : Nat) default)))));
 let r_5 : List D := (List.set r_4 (0 + n5.toNat : Nat) (D.ag (putD 4 [D.lit (.int .i64 (IntKind.i64.wrap (IntKind.i64.wrap (IntKind.i64.wrap (IntKind.i64.wrap (n1
 + 1) + 1) + 1) + 1)))] (D.cells (List.getD r_4 (0 + n5.toNat : Nat) default))))); fun N4 => N3 ≤ N4 → (0 ≤ n5 ∧ n5 < (m0 : Int) ∧ (0 + n5.toNat : Nat) < r_2.length)
 ∧ (0 + n5.toNat : Nat) < r_2.length ∧ (0 ≤ n5 ∧ n5 < (m0 : Int) ∧ (0 + n5.toNat : Nat) < r_3.length) ∧ (0 + n5.toNat : Nat) < r_3.length ∧ (0 ≤ n5 ∧ n5 < (m0 : Int)
 ∧ (0 + n5.toNat : Nat) < r_4.length) ∧ (0 + n5.toNat : Nat) < r_4.length ∧ (0 ≤ n5 ∧ n5 < (m0 : Int) ∧ (0 + n5.toNat : Nat) < r_5.length) ∧ (0 + n5.toNat : Nat)
 < r_5.length ∧ ∃ a es, ∃ c : Nat, D.cell (List.getD r_5 (0 + n5.toNat : Nat) default) 5 = D.sl a 2 es c ∧ Tree (D.sl a 2 es c) ∧ In T (D.sl a 2 es c) ∧ (0 + n5.toNat
 : Nat) < r_5.length ∧ 5 < (D.cells (List.getD r_5 (0 + n5.toNat : Nat) default)).length ∧ D.cell (List.getD r_5 (0 + n5.toNat : Nat) default) 5 = D.sl a 2 es c ∧
 Once r_5 ∧ Dis (D.sl a 2 es c) [] ∧ ∀ N5, N4 ≤ N5 → MC prog 51 (D.sl a 2 es c) (IntKind.i64.wrap (IntKind.i64.wrap (IntKind.i64.wrap (IntKind.i64.wrap (IntKind.i64.wrap
 (n1 + 1) + 1) + 1) + 1) + 1)) N5 (fun x => let r_6 : List D := (List.set r_5 (0 + n5.toNat : Nat) (D.ag (putD 5 [x] (D.cells (List.getD r_5 (0 + n5.toNat : Nat)
 default))))); fun n => let r_7 : List D := (List.set r_6 (0 + n5.toNat : Nat) (D.ag (putD 6 [D.lit (.int .i64 n)] (D.cells (List.getD r_6 (0 + n5.toNat : Nat) default)))));
 fun N6 => N5 ≤ N6 → (0 ≤ n5 ∧ n5 < (m0 : Int) ∧ (0 + n5.toNat : Nat) < r_6.length) ∧ (0 + n5.toNat : Nat) < r_6.length ∧ (0 ≤ n5 ∧ n5 < (m0 : Int) ∧ (0 + n5.toNat
 : Nat) < r_7.length) ∧ (0 + n5.toNat : Nat) < r_7.length ∧ ∃ a_1 es_1, ∃ c_1 : Nat, D.cell (List.getD r_7 (0 + n5.toNat : Nat) default) 7 = D.sl a_1 2 es_1 c_1 ∧
 Tree (D.sl a_1 2 es_1 c_1) ∧ In T (D.sl a_1 2 es_1 c_1) ∧ (0 + n5.toNat : Nat) < r_7.length ∧ 7 < (D.cells (List.getD r_7 (0 + n5.toNat : Nat) default)).length ∧
 D.cell (List.getD r_7 (0 + n5.toNat : Nat) default) 7 = D.sl a_1 2 es_1 c_1 ∧ Once r_7 ∧ Dis (D.sl a_1 2 es_1 c_1) [] ∧ ∀ N7, N6 ≤ N7 → MC prog 51 (D.sl a_1 2
 es_1 c_1) (IntKind.i64.wrap (n + 1)) N7 (fun x_1 => let r_8 : List D := (List.set r_7 (0 + n5.toNat : Nat) (D.ag (putD 7 [x_1] (D.cells (List.getD r_7 (0 + n5.toNat
 : Nat) default))))); fun n_1 N8 => N7 ≤ N8 → (0 ≤ n5 ∧ n5 < (m0 : Int) ∧ (0 + n5.toNat : Nat) < r_8.length) ∧ (0 + n5.toNat : Nat) < r_8.length ∧ ∃ a_2 es_2,
 ∃ c_2 : Nat, D.cell (List.getD r_8 (0 + n5.toNat : Nat) default) 8 = D.sl a_2 9 es_2 c_2 ∧ Tree (D.sl a_2 9 es_2 c_2) ∧ In T (D.sl a_2 9 es_2 c_2) ∧ (0 + n5.toNat
 : Nat) < r_8.length ∧ 8 < (D.cells (List.getD r_8 (0 + n5.toNat : Nat) default)).length ∧ D.cell (List.getD r_8 (0 + n5.toNat : Nat) default) 8 = D.sl a_2 9 es_2
 c_2 ∧ Once r_8 ∧ Dis (D.sl a_2 9 es_2 c_2) [] ∧ ∀ N9, N8 ≤ N9 → MC prog 34 (D.sl a_2 9 es_2 c_2) n_1 N9 (fun x_2 n_2 N10 => N9 ≤ N10 → L_laws_markTermS_2_v1
 T b0 QM N0 m0 c0 n_2 (IntKind.i64.wrap (n5 + 1)) t0 (List.set r_8 (0 + n5.toNat : Nat) (D.ag (putD 8 [x_2] (D.cells (List.getD r_8 (0 + n5.toNat : Nat) default)))))
 q0 N10)))))) (b0 = b0 ∧ ∀ N11, N ≤ N11 → QM n1 (D.ag r0) N11)) : L_laws_markTermS_2_v1 T b0 QM N0 m0 c0 n1 n5 t0 r0 q0 N :=
  hE (H := H_laws_markTermS) (by kernel_rfl) h

end Go.Proofs.YtfkmegifjiiclaaGreat

/- Printed by gen.py: what the functions come to. -/
set_option linter.unusedVariables false
set_option maxRecDepth 100000
namespace Go.Proofs.YtfkmegifjiiclaaGreat
open Go Go.Proofs Go.Proofs.Tryz
def H_laws_eqType : Hint := ⟨[], [], []⟩
def H_laws_eqTypeS : Hint := ⟨[hc 4 [0, 1, 5]], [], [(6, [en 0, en 1, en 2, en 3, en 4, en 5, en 6, en 7, ec 8 [20, 24], en 9])]⟩
def H_laws_eqTerm : Hint := ⟨[], [], [(9, hs 6 [ec 4 [26, 28]]), (11, hs 6 [ec 4 [32, 34]])]⟩
def H_laws_eqTermS : Hint := ⟨[hc 4 [0, 1, 5]], [], [(6, [en 0, en 1, en 2, en 3, en 4, en 5, en 6, en 7, ec 8 [20, 24], en 9])]⟩
def L_laws_eqTypeS_4 (Q : QT [.bool]) (N0 : Nat) (a0 : Option Addr) (e0 : List D) (c0 : Nat) (a1 : Option Addr) (e1 : List D) (c1 : Nat) (n5 : Int) (N : Nat) : Prop := AT prog 108 [.bool] Q N0 .ord (loopAt prog 108 4) ⟨.sv a0 2 e0 c0 :: .sv a1 2 e1 c1 :: an 3 (.int .i64 n5 :: an 21 []), [], N, none⟩
def L_laws_eqTermS_4 (Q : QT [.bool]) (N0 : Nat) (a0 : Option Addr) (e0 : List D) (c0 : Nat) (a1 : Option Addr) (e1 : List D) (c1 : Nat) (n5 : Int) (N : Nat) : Prop := AT prog 33 [.bool] Q N0 .ord (loopAt prog 33 4) ⟨.sv a0 9 e0 c0 :: .sv a1 9 e1 c1 :: an 3 (.int .i64 n5 :: an 21 []), [], N, none⟩
theorem w_laws_eqType (N : Nat) (x0 x1 : D) (Q : QT [.bool]) (h :
Bel N x0 → Bel N x1 → ∃ n : Int, (x0.cell 0) = D.lit (.int .i64 n) ∧ ∃ n_1 : Int, (x1.cell 0) = D.lit (.int .i64 n_1) ∧ Br (bne n n_1) (∀ N1, N ≤ N1 → Q false
 N1) (∃ a es, ∃ c : Nat, (x0.cell 1) = D.sl a 2 es c ∧ ∃ a_1 es_1, ∃ c_1 : Nat, (x1.cell 1) = D.sl a_1 2 es_1 c_1 ∧ ∀ N2, N ≤ N2 → ACalls prog 108 [.bool] [.sv
 a 2 es c, .sv a_1 2 es_1 c_1] N2 (fun b N3 => N2 ≤ N3 → Br (!b) (∀ N4, N3 ≤ N4 → Q false N4) (∀ N5, N3 ≤ N5 → Q true N5)))) : ACalls prog 48 [.bool] [PV.dg 2 x0, PV.dg 2 x1] N Q :=
  eE (H := H_laws_eqType) (by kernel_rfl) (by kernel_rfl) h
theorem w_laws_eqTypeS (N : Nat) (a0 : Option Addr) (e0 : List D) (c0 : Nat) (a1 : Option Addr) (e1 : List D) (c1 : Nat) (Q : QT [.bool]) (h :
Bel N (D.sl a0 2 e0 c0) → Bel N (D.sl a1 2 e1 c1) → Br (bne (e0.length : Int) (e1.length : Int)) (∀ N1, N ≤ N1 → Q false N1) (L_laws_eqTypeS_4 Q N a0 e0 c0 a1
 e1 c1 0 N)) : ACalls prog 108 [.bool] [PV.sv a0 2 e0 c0, PV.sv a1 2 e1 c1] N Q :=
  eE (H := H_laws_eqTypeS) (by kernel_rfl) (by kernel_rfl) h
theorem w_laws_eqTerm (N : Nat) (x0 x1 : D) (Q : QT [.bool]) (h :
Bel N x0 → Bel N x1 → ∃ n : Int, (x0.cell 0) = D.lit (.int .i64 n) ∧ ∃ n_1 : Int, (x1.cell 0) = D.lit (.int .i64 n_1) ∧ Br (bne n n_1) (∀ N1, N ≤ N1 → Q false
 N1) (∃ s, (x0.cell 1) = D.lit (.string s) ∧ ∃ s_1, (x1.cell 1) = D.lit (.string s_1) ∧ Br (!(ByteArray.toList s == ByteArray.toList s_1)) (∀ N2, N ≤ N2 → Q false
 N2) (∃ s_2, (x0.cell 2) = D.lit (.string s_2) ∧ ∃ s_3, (x1.cell 2) = D.lit (.string s_3) ∧ Br (!(ByteArray.toList s_2 == ByteArray.toList s_3)) (∀ N3, N ≤ N3
 → Q false N3) (∃ n_2 : Int, (x0.cell 3) = D.lit (.int .i64 n_2) ∧ ∃ n_3 : Int, (x1.cell 3) = D.lit (.int .i64 n_3) ∧ Br (bne n_2 n_3) (∀ N4, N ≤ N4 → Q false
 N4) (∀ N5, N ≤ N5 → ACalls prog 48 [.bool] [.dg 2 (D.sub x0 4 2), .dg 2 (D.sub x1 4 2)] N5 (fun b N6 => N5 ≤ N6 → Br (!b) (∀ N7, N6 ≤ N7 → Q false N7)
 (∀ N8, N6 ≤ N8 → ACalls prog 48 [.bool] [.dg 2 (D.sub x0 6 2), .dg 2 (D.sub x1 6 2)] N8 (fun b_1 N9 => N8 ≤ N9 → Br (!b_1) (∀ N10, N9 ≤ N10 → Q false N10)
 (∃ a es, ∃ c : Nat, (x0.cell 8) = D.sl a 9 es c ∧ ∃ a_1 es_1, ∃ c_1 : Nat, (x1.cell 8) = D.sl a_1 9 es_1 c_1 ∧ ∀ N11, N9 ≤ N11 → ACalls prog 33 [.bool] [.sv a
 9 es c, .sv a_1 9 es_1 c_1] N11 (fun b_2 N12 => N11 ≤ N12 → Br (!b_2) (∀ N13, N12 ≤ N13 → Q false N13) (∀ N14, N12 ≤ N14 → Q true N14))))))))))) : ACalls prog 15 [.bool] [PV.dg 9 x0, PV.dg 9 x1] N Q :=
  eE (H := H_laws_eqTerm) (by kernel_rfl) (by kernel_rfl) h
theorem w_laws_eqTermS (N : Nat) (a0 : Option Addr) (e0 : List D) (c0 : Nat) (a1 : Option Addr) (e1 : List D) (c1 : Nat) (Q : QT [.bool]) (h :
Bel N (D.sl a0 9 e0 c0) → Bel N (D.sl a1 9 e1 c1) → Br (bne (e0.length : Int) (e1.length : Int)) (∀ N1, N ≤ N1 → Q false N1) (L_laws_eqTermS_4 Q N a0 e0 c0 a1
 e1 c1 0 N)) : ACalls prog 33 [.bool] [PV.sv a0 9 e0 c0, PV.sv a1 9 e1 c1] N Q :=
  eE (H := H_laws_eqTermS) (by kernel_rfl) (by kernel_rfl) h
theorem l_laws_eqTypeS_4 (Q : QT [.bool]) (N0 : Nat) (a0 : Option Addr) (e0 : List D) (c0 : Nat) (a1 : Option Addr) (e1 : List D) (c1 : Nat) (n5 : Int) (N : Nat) (h :
Br (decide (n5 < (e0.length : Int))) ((0 ≤ n5 ∧ n5 < (e0.length : Int)) ∧ (0 ≤ n5 ∧ n5 < (e1.length : Int)) ∧ ∀ N1, N ≤ N1 → ACalls prog 48 [.bool] [.dg 2 (List.getD
 e0 n5.toNat default), .dg 2 (List.getD e1 n5.toNat default)] N1 (fun b N2 => N1 ≤ N2 → Br (!b) (∀ N3, N2 ≤ N3 → Q false N3) (L_laws_eqTypeS_4 Q N0 a0 e0
 c0 a1 e1 c1 (IntKind.i64.wrap (n5 + 1)) N2))) (∀ N4, N ≤ N4 → Q true N4)) : L_laws_eqTypeS_4 Q N0 a0 e0 c0 a1 e1 c1 n5 N :=
  hE (H := H_laws_eqTypeS) (by kernel_rfl) h
theorem l_laws_eqTermS_4 (Q : QT [.bool]) (N0 : Nat) (a0 : Option Addr) (e0 : List D) (c0 : Nat) (a1 : Option Addr) (e1 : List D) (c1 : Nat) (n5 : Int) (N : Nat) (h :
Br (decide (n5 < (e0.length : Int))) ((0 ≤ n5 ∧ n5 < (e0.length : Int)) ∧ (0 ≤ n5 ∧ n5 < (e1.length : Int)) ∧ ∀ N1, N ≤ N1 → ACalls prog 15 [.bool] [.dg 9 (List.getD
 e0 n5.toNat default), .dg 9 (List.getD e1 n5.toNat default)] N1 (fun b N2 => N1 ≤ N2 → Br (!b) (∀ N3, N2 ≤ N3 → Q false N3) (L_laws_eqTermS_4 Q N0 a0 e0
 c0 a1 e1 c1 (IntKind.i64.wrap (n5 + 1)) N2))) (∀ N4, N ≤ N4 → Q true N4)) : L_laws_eqTermS_4 Q N0 a0 e0 c0 a1 e1 c1 n5 N :=
  hE (H := H_laws_eqTermS) (by kernel_rfl) h

end Go.Proofs.YtfkmegifjiiclaaGreat
