/- Printed by gen.py: what the functions come to. -/
import Derived.Test.YtobhcgffgpcjgaaGreatJh
set_option linter.unusedVariables false
set_option maxRecDepth 100000
namespace Go.Proofs.YtobhcgffgpcjgaaGreat
open Go Go.Proofs Go.Proofs.Tryz
def H_laws_szType : Hint := { cuts := [], joins := [], ords := [] }
def H_laws_szTypeS : Hint := { cuts := [{ id := 5, keep := [0, 1, 5] }], joins := [], ords := [(7, [{ i := 0, hard := true }, { i := 1, hard := true }, { i := 2, hard := true }, { i := 3, hard := true }, { i := 4, hard := true }, { i := 5, hard := true, cl := [21] }, { i := 6, hard := true }])] }
def H_laws_szTerm : Hint := { cuts := [], joins := [], ords := [(7, [{ i := 0, hard := true }, { i := 1, hard := true }, { i := 2, hard := true }, { i := 3, hard := true, cl := [20] }, { i := 4, hard := true }]),
  (10, [{ i := 0, hard := true }, { i := 1, hard := true }, { i := 2, hard := true }, { i := 3, hard := true, cl := [26] }, { i := 4, hard := true }])] }
def H_laws_szTermS : Hint := { cuts := [{ id := 5, keep := [0, 1, 5] }], joins := [], ords := [(7, [{ i := 0, hard := true }, { i := 1, hard := true }, { i := 2, hard := true }, { i := 3, hard := true }, { i := 4, hard := true }, { i := 5, hard := true, cl := [21] }, { i := 6, hard := true }])] }
def L_laws_szTypeS_5 (Q : QT [.int .i64]) (N0 : Nat) (a0 : Option Addr) (e0 : List D) (c0 : Nat) (n1 : Int) (n5 : Int) (N : Nat) : Prop := AT prog 68 [.int .i64] Q N0 .ord (loopAt prog 68 5) ⟨[.sv a0 2 e0 c0, .int .i64 n1, .any, .any, .any, .int .i64 n5, .any, .any, .any, .any, .any, .any, .any, .any, .any, .any, .any, .any, .any, .any, .any, .any, .any, .any, .any, .any, .any], [], N, none⟩
def L_laws_szTermS_5 (Q : QT [.int .i64]) (N0 : Nat) (a0 : Option Addr) (e0 : List D) (c0 : Nat) (n1 : Int) (n5 : Int) (N : Nat) : Prop := AT prog 35 [.int .i64] Q N0 .ord (loopAt prog 35 5) ⟨[.sv a0 9 e0 c0, .int .i64 n1, .any, .any, .any, .int .i64 n5, .any, .any, .any, .any, .any, .any, .any, .any, .any, .any, .any, .any, .any, .any, .any, .any, .any, .any, .any, .any, .any], [], N, none⟩
theorem w_laws_szType (N : Nat) (x0 : D) (n1 : Int) (Q : QT [.int .i64]) (h :
((Bel N x0) →
(∃ (a : Option Addr),
(∃ (es : List D),
(∃ (c : Nat),
(((D.cell x0 1) = (D.sl a 2 es c)) ∧
(∀ (N_1 : Nat),
((N ≤ N_1) →
(ACalls prog 68 [(Sh.int IntKind.i64)] [PV.sv a 2 es c, PV.int .i64 n1] N_1 (fun (n : Int) => (fun (N_2 : Nat) => 
((N_1 ≤ N_2) →
(Br (decide ((n < (0 : Int))))
(∀ (N_3 : Nat),
((N_2 ≤ N_3) →
(Q (-1 : Int) N_3)))
(∀ (N_4 : Nat),
((N_2 ≤ N_4) →
(Q n N_4)))))))))))))))) : ACalls prog 34 [.int .i64] [PV.dg 2 x0, PV.int .i64 n1] N Q :=
  entryE (sh := sh) (H := H_laws_szType) (fuel := 400) (by kernel_rfl) (by kernel_rfl) (by kernel_rfl) h
theorem w_laws_szTypeS (N : Nat) (a0 : Option Addr) (e0 : List D) (c0 : Nat) (n1 : Int) (Q : QT [.int .i64]) (h :
((Bel N (D.sl a0 2 e0 c0)) →
(Br (decide (((IntKind.i64.wrap (n1 - (((List.length e0) : Nat) : Int) : Int)) < (0 : Int))))
(∀ (N_1 : Nat),
((N ≤ N_1) →
(Q (-1 : Int) N_1)))
(L_laws_szTypeS_5 Q N a0 e0 c0 (IntKind.i64.wrap (n1 - (((List.length e0) : Nat) : Int) : Int)) (0 : Int) N)))) : ACalls prog 68 [.int .i64] [PV.sv a0 2 e0 c0, PV.int .i64 n1] N Q :=
  entryE (sh := sh) (H := H_laws_szTypeS) (fuel := 400) (by kernel_rfl) (by kernel_rfl) (by kernel_rfl) h
theorem w_laws_szTerm (N : Nat) (x0 : D) (n1 : Int) (Q : QT [.int .i64]) (h :
((Bel N x0) →
(∃ (s : ByteArray),
(((D.cell x0 1) = (D.lit (Value.string s))) ∧
(Br (decide (((IntKind.i64.wrap (n1 - (((ByteArray.size s) : Nat) : Int) : Int)) < (0 : Int))))
(∀ (N_1 : Nat),
((N ≤ N_1) →
(Q (-1 : Int) N_1)))
(∃ (s_1 : ByteArray),
(((D.cell x0 2) = (D.lit (Value.string s_1))) ∧
(Br (decide (((IntKind.i64.wrap ((IntKind.i64.wrap (n1 - (((ByteArray.size s) : Nat) : Int) : Int)) - (((ByteArray.size s_1) : Nat) : Int) : Int)) < (0 : Int))))
(∀ (N_2 : Nat),
((N ≤ N_2) →
(Q (-1 : Int) N_2)))
(∀ (N_3 : Nat),
((N ≤ N_3) →
(ACalls prog 34 [(Sh.int IntKind.i64)] [PV.dg 2 (D.sub x0 4 2), PV.int .i64 (IntKind.i64.wrap ((IntKind.i64.wrap (n1 - (((ByteArray.size s) : Nat) : Int) : Int)) - (((ByteArray.size s_1) : Nat) : Int) : Int))] N_3 (fun (n : Int) => (fun (N_4 : Nat) => 
((N_3 ≤ N_4) →
(Br (decide ((n < (0 : Int))))
(∀ (N_5 : Nat),
((N_4 ≤ N_5) →
(Q (-1 : Int) N_5)))
(∀ (N_6 : Nat),
((N_4 ≤ N_6) →
(ACalls prog 34 [(Sh.int IntKind.i64)] [PV.dg 2 (D.sub x0 6 2), PV.int .i64 n] N_6 (fun (n_1 : Int) => (fun (N_7 : Nat) => 
((N_6 ≤ N_7) →
(Br (decide ((n_1 < (0 : Int))))
(∀ (N_8 : Nat),
((N_7 ≤ N_8) →
(Q (-1 : Int) N_8)))
(∃ (a : Option Addr),
(∃ (es : List D),
(∃ (c : Nat),
(((D.cell x0 8) = (D.sl a 9 es c)) ∧
(∀ (N_9 : Nat),
((N_7 ≤ N_9) →
(ACalls prog 35 [(Sh.int IntKind.i64)] [PV.sv a 9 es c, PV.int .i64 n_1] N_9 (fun (n_2 : Int) => (fun (N_10 : Nat) => 
((N_9 ≤ N_10) →
(Br (decide ((n_2 < (0 : Int))))
(∀ (N_11 : Nat),
((N_10 ≤ N_11) →
(Q (-1 : Int) N_11)))
(∀ (N_12 : Nat),
((N_10 ≤ N_12) →
(Q n_2 N_12)))))))))))))))))))))))))))))))))))) : ACalls prog 8 [.int .i64] [PV.dg 9 x0, PV.int .i64 n1] N Q :=
  entryE (sh := sh) (H := H_laws_szTerm) (fuel := 400) (by kernel_rfl) (by kernel_rfl) (by kernel_rfl) h
theorem w_laws_szTermS (N : Nat) (a0 : Option Addr) (e0 : List D) (c0 : Nat) (n1 : Int) (Q : QT [.int .i64]) (h :
((Bel N (D.sl a0 9 e0 c0)) →
(Br (decide (((IntKind.i64.wrap (n1 - (((List.length e0) : Nat) : Int) : Int)) < (0 : Int))))
(∀ (N_1 : Nat),
((N ≤ N_1) →
(Q (-1 : Int) N_1)))
(L_laws_szTermS_5 Q N a0 e0 c0 (IntKind.i64.wrap (n1 - (((List.length e0) : Nat) : Int) : Int)) (0 : Int) N)))) : ACalls prog 35 [.int .i64] [PV.sv a0 9 e0 c0, PV.int .i64 n1] N Q :=
  entryE (sh := sh) (H := H_laws_szTermS) (fuel := 400) (by kernel_rfl) (by kernel_rfl) (by kernel_rfl) h
theorem l_laws_szTypeS_5 (Q : QT [.int .i64]) (N0 : Nat) (a0 : Option Addr) (e0 : List D) (c0 : Nat) (n1 : Int) (n5 : Int) (N : Nat) (h :
(Br (decide ((n5 < (((List.length e0) : Nat) : Int))))
((((0 : Int) ≤ n5) ∧
(n5 < (((List.length e0) : Nat) : Int))) ∧
(∀ (N_1 : Nat),
((N ≤ N_1) →
(ACalls prog 34 [(Sh.int IntKind.i64)] [PV.dg 2 (List.getD e0 (Int.toNat n5) Inhabited.default), PV.int .i64 n1] N_1 (fun (n : Int) => (fun (N_2 : Nat) => 
((N_1 ≤ N_2) →
(Br (decide ((n < (0 : Int))))
(∀ (N_3 : Nat),
((N_2 ≤ N_3) →
(Q (-1 : Int) N_3)))
(L_laws_szTypeS_5 Q N0 a0 e0 c0 n (IntKind.i64.wrap (n5 + (1 : Int) : Int)) N_2)))))))))
(∀ (N_4 : Nat),
((N ≤ N_4) →
(Q n1 N_4))))) : L_laws_szTypeS_5 Q N0 a0 e0 c0 n1 n5 N :=
  headE (sh := sh) (H := H_laws_szTypeS) (fuel := 400) (by kernel_rfl) (by kernel_rfl) h
theorem l_laws_szTermS_5 (Q : QT [.int .i64]) (N0 : Nat) (a0 : Option Addr) (e0 : List D) (c0 : Nat) (n1 : Int) (n5 : Int) (N : Nat) (h :
(Br (decide ((n5 < (((List.length e0) : Nat) : Int))))
((((0 : Int) ≤ n5) ∧
(n5 < (((List.length e0) : Nat) : Int))) ∧
(∀ (N_1 : Nat),
((N ≤ N_1) →
(ACalls prog 8 [(Sh.int IntKind.i64)] [PV.dg 9 (List.getD e0 (Int.toNat n5) Inhabited.default), PV.int .i64 n1] N_1 (fun (n : Int) => (fun (N_2 : Nat) => 
((N_1 ≤ N_2) →
(Br (decide ((n < (0 : Int))))
(∀ (N_3 : Nat),
((N_2 ≤ N_3) →
(Q (-1 : Int) N_3)))
(L_laws_szTermS_5 Q N0 a0 e0 c0 n (IntKind.i64.wrap (n5 + (1 : Int) : Int)) N_2)))))))))
(∀ (N_4 : Nat),
((N ≤ N_4) →
(Q n1 N_4))))) : L_laws_szTermS_5 Q N0 a0 e0 c0 n1 n5 N :=
  headE (sh := sh) (H := H_laws_szTermS) (fuel := 400) (by kernel_rfl) (by kernel_rfl) h
end Go.Proofs.YtobhcgffgpcjgaaGreat

/- Printed by gen.py: what the functions come to. -/
set_option linter.unusedVariables false
set_option maxRecDepth 100000
namespace Go.Proofs.YtobhcgffgpcjgaaGreat
open Go Go.Proofs Go.Proofs.Tryz
def H_laws_toType : Hint := { cuts := [], joins := [], ords := [] }
def H_laws_toTypeS : Hint := { cuts := [{ id := 3, keep := [0, 3, 4] }], joins := [], ords := [(5, [{ i := 0, hard := true }, { i := 1, hard := true }, { i := 2, hard := true }, { i := 3, hard := true }, { i := 4, hard := true }, { i := 5, hard := true }, { i := 6, hard := true, cl := [19] }, { i := 7, hard := true }, { i := 8, hard := true }])] }
def H_laws_toTerm : Hint := { cuts := [], joins := [], ords := [(6, [{ i := 0, hard := true }, { i := 1, hard := true }, { i := 2, hard := true, cl := [17] }, { i := 3, hard := true }, { i := 4, hard := true }]),
  (7, [{ i := 0, hard := true }, { i := 1, hard := true }, { i := 2, hard := true, cl := [21] }, { i := 3, hard := true }, { i := 4, hard := true }])] }
def H_laws_toTermS : Hint := { cuts := [{ id := 3, keep := [0, 3, 4] }], joins := [], ords := [(5, [{ i := 0, hard := true }, { i := 1, hard := true }, { i := 2, hard := true }, { i := 3, hard := true }, { i := 4, hard := true }, { i := 5, hard := true }, { i := 6, hard := true, cl := [19] }, { i := 7, hard := true }, { i := 8, hard := true }])] }
def L_laws_toTypeS_3 (Q : QT [.sl 2]) (N0 : Nat) (a0 : Option Addr) (e0 : List D) (c0 : Nat) (m3 : Nat) (c3 : Nat) (n4 : Int) (r0 : List D) (q0 : Nat) (N : Nat) : Prop := AT prog 75 [.sl 2] Q N0 .ord (loopAt prog 75 3) ⟨[.sv a0 2 e0 c0, .any, .any, .sb 0 2 0 m3 c3, .int .i64 n4, .any, .any, .any, .any, .any, .any, .any, .any, .any, .any, .any, .any, .any, .any, .any, .any, .any, .any], [.arr 33 2 r0 q0], N, none⟩
def L_laws_toTermS_3 (Q : QT [.sl 9]) (N0 : Nat) (a0 : Option Addr) (e0 : List D) (c0 : Nat) (m3 : Nat) (c3 : Nat) (n4 : Int) (r0 : List D) (q0 : Nat) (N : Nat) : Prop := AT prog 41 [.sl 9] Q N0 .ord (loopAt prog 41 3) ⟨[.sv a0 9 e0 c0, .any, .any, .sb 0 9 0 m3 c3, .int .i64 n4, .any, .any, .any, .any, .any, .any, .any, .any, .any, .any, .any, .any, .any, .any, .any, .any, .any, .any], [.arr 40 9 r0 q0], N, none⟩
theorem w_laws_toType (N : Nat) (x0 : D) (Q : QT [.ag 2]) (h :
((Bel N x0) →
(∃ (n : Int),
(((D.cell x0 0) = (D.lit (Value.int IntKind.i64 n))) ∧
(∃ (a : Option Addr),
(∃ (es : List D),
(∃ (c : Nat),
(((D.cell x0 1) = (D.sl a 2 es c)) ∧
(∀ (N_1 : Nat),
((N ≤ N_1) →
(ACalls prog 75 [(Sh.sl 2)] [PV.sv a 2 es c] N_1 (fun (a_1 : Option Addr) => (fun (es_1 : List D) => (fun (c_1 : Nat) => (fun (N_2 : Nat) => 
((N_1 ≤ N_2) →
((Bel N_2 (D.sl a_1 2 es_1 c_1)) →
(∀ (N_3 : Nat),
((N_2 ≤ N_3) →
(Q (D.ag [(D.lit (Value.int IntKind.i64 n)), (D.sl a_1 2 es_1 c_1)]) N_3)))))))))))))))))))) : ACalls prog 40 [.ag 2] [PV.dg 2 x0] N Q :=
  entryE (sh := sh) (H := H_laws_toType) (fuel := 400) (by kernel_rfl) (by kernel_rfl) (by kernel_rfl) h
theorem w_laws_toTypeS (N : Nat) (a0 : Option Addr) (e0 : List D) (c0 : Nat) (Q : QT [.sl 2]) (h :
((Bel N (D.sl a0 2 e0 c0)) →
((((0 : Int) ≤ (((List.length e0) : Nat) : Int)) ∧
(((((List.length e0) : Nat) : Int) ≤ (((List.length e0) : Nat) : Int)) ∧
((((32 : Int) * (((List.length e0) : Nat) : Int) : Int) ≤ (140737488355328 : Int)) ∧
((((List.length e0) : Nat) : Int) ≤ (9223372036854775807 : Int))))) ∧
(L_laws_toTypeS_3 Q N a0 e0 c0 (Int.toNat (((List.length e0) : Nat) : Int)) (Int.toNat (((List.length e0) : Nat) : Int)) (0 : Int) (List.replicate (Int.toNat (((List.length e0) : Nat) : Int)) (D.ag [(D.lit (Value.int IntKind.i64 (0 : Int))), (D.sl Option.none 2 [] 0)])) (Int.toNat (((List.length e0) : Nat) : Int)) N)))) : ACalls prog 75 [.sl 2] [PV.sv a0 2 e0 c0] N Q :=
  entryE (sh := sh) (H := H_laws_toTypeS) (fuel := 400) (by kernel_rfl) (by kernel_rfl) (by kernel_rfl) h
theorem w_laws_toTerm (N : Nat) (x0 : D) (Q : QT [.ag 9]) (h :
((Bel N x0) →
(∃ (n : Int),
(((D.cell x0 0) = (D.lit (Value.int IntKind.i64 n))) ∧
(∃ (s : ByteArray),
(((D.cell x0 1) = (D.lit (Value.string s))) ∧
(∃ (s_1 : ByteArray),
(((D.cell x0 2) = (D.lit (Value.string s_1))) ∧
(∃ (n_1 : Int),
(((D.cell x0 3) = (D.lit (Value.int IntKind.i64 n_1))) ∧
(∀ (N_1 : Nat),
((N ≤ N_1) →
(ACalls prog 40 [(Sh.ag 2)] [PV.dg 2 (D.sub x0 4 2)] N_1 (fun (x : D) => (fun (N_2 : Nat) => 
((N_1 ≤ N_2) →
((Bel N_2 x) →
(∀ (N_3 : Nat),
((N_2 ≤ N_3) →
(ACalls prog 40 [(Sh.ag 2)] [PV.dg 2 (D.sub x0 6 2)] N_3 (fun (x_1 : D) => (fun (N_4 : Nat) => 
((N_3 ≤ N_4) →
((Bel N_4 x_1) →
(∃ (a : Option Addr),
(∃ (es : List D),
(∃ (c : Nat),
(((D.cell x0 8) = (D.sl a 9 es c)) ∧
(∀ (N_5 : Nat),
((N_4 ≤ N_5) →
(ACalls prog 41 [(Sh.sl 9)] [PV.sv a 9 es c] N_5 (fun (a_1 : Option Addr) => (fun (es_1 : List D) => (fun (c_1 : Nat) => (fun (N_6 : Nat) => 
((N_5 ≤ N_6) →
((Bel N_6 (D.sl a_1 9 es_1 c_1)) →
(∀ (N_7 : Nat),
((N_6 ≤ N_7) →
(Q (D.ag [(D.lit (Value.int IntKind.i64 n)), (D.lit (Value.string s)), (D.lit (Value.string s_1)), (D.lit (Value.int IntKind.i64 n_1)), (D.cell x 0), (D.cell x 1), (D.cell x_1 0), (D.cell x_1 1), (D.sl a_1 9 es_1 c_1)]) N_7)))))))))))))))))))))))))))))))))))))))) : ACalls prog 11 [.ag 9] [PV.dg 9 x0] N Q :=
  entryE (sh := sh) (H := H_laws_toTerm) (fuel := 400) (by kernel_rfl) (by kernel_rfl) (by kernel_rfl) h
theorem w_laws_toTermS (N : Nat) (a0 : Option Addr) (e0 : List D) (c0 : Nat) (Q : QT [.sl 9]) (h :
((Bel N (D.sl a0 9 e0 c0)) →
((((0 : Int) ≤ (((List.length e0) : Nat) : Int)) ∧
(((((List.length e0) : Nat) : Int) ≤ (((List.length e0) : Nat) : Int)) ∧
((((136 : Int) * (((List.length e0) : Nat) : Int) : Int) ≤ (140737488355328 : Int)) ∧
((((List.length e0) : Nat) : Int) ≤ (9223372036854775807 : Int))))) ∧
(L_laws_toTermS_3 Q N a0 e0 c0 (Int.toNat (((List.length e0) : Nat) : Int)) (Int.toNat (((List.length e0) : Nat) : Int)) (0 : Int) (List.replicate (Int.toNat (((List.length e0) : Nat) : Int)) (D.ag [(D.lit (Value.int IntKind.i64 (0 : Int))), (D.lit (Value.string (bytes []))), (D.lit (Value.string (bytes []))), (D.lit (Value.int IntKind.i64 (0 : Int))), (D.lit (Value.int IntKind.i64 (0 : Int))), (D.sl Option.none 2 [] 0), (D.lit (Value.int IntKind.i64 (0 : Int))), (D.sl Option.none 2 [] 0), (D.sl Option.none 9 [] 0)])) (Int.toNat (((List.length e0) : Nat) : Int)) N)))) : ACalls prog 41 [.sl 9] [PV.sv a0 9 e0 c0] N Q :=
  entryE (sh := sh) (H := H_laws_toTermS) (fuel := 400) (by kernel_rfl) (by kernel_rfl) (by kernel_rfl) h
theorem l_laws_toTypeS_3 (Q : QT [.sl 2]) (N0 : Nat) (a0 : Option Addr) (e0 : List D) (c0 : Nat) (m3 : Nat) (c3 : Nat) (n4 : Int) (r0 : List D) (q0 : Nat) (N : Nat) (h :
(Br (decide ((n4 < (((List.length e0) : Nat) : Int))))
((((0 : Int) ≤ n4) ∧
(n4 < (((List.length e0) : Nat) : Int))) ∧
(∀ (N_1 : Nat),
((N ≤ N_1) →
(ACalls prog 40 [(Sh.ag 2)] [PV.dg 2 (List.getD e0 (Int.toNat n4) Inhabited.default)] N_1 (fun (x : D) => (fun (N_2 : Nat) => 
((N_1 ≤ N_2) →
((Bel N_2 x) →
((((0 : Int) ≤ n4) ∧
((n4 < ((m3 : Nat) : Int)) ∧
((0 + (Int.toNat n4) : Nat) < (List.length r0)))) ∧
(((0 + (Int.toNat n4) : Nat) < (List.length r0)) ∧
(L_laws_toTypeS_3 Q N0 a0 e0 c0 m3 c3 (IntKind.i64.wrap (n4 + (1 : Int) : Int)) (List.set r0 (0 + (Int.toNat n4) : Nat) x) q0 N_2)))))))))))
(((m3 = (List.length r0)) ∧
(c3 = q0)) ∧
(((m3 = (List.length r0)) ∧
(c3 = q0)) ∧
(((m3 = (List.length r0)) ∧
(c3 = q0)) ∧
(∀ (a : Option Addr),
(∀ (N_3 : Nat),
((N ≤ N_3) →
((Fresh N0 N_3 a [(D.ag r0)]) →
(∀ (N_4 : Nat),
((N_3 ≤ N_4) →
(Q a r0 q0 N_4)))))))))))) : L_laws_toTypeS_3 Q N0 a0 e0 c0 m3 c3 n4 r0 q0 N :=
  headE (sh := sh) (H := H_laws_toTypeS) (fuel := 400) (by kernel_rfl) (by kernel_rfl) h
theorem l_laws_toTermS_3 (Q : QT [.sl 9]) (N0 : Nat) (a0 : Option Addr) (e0 : List D) (c0 : Nat) (m3 : Nat) (c3 : Nat) (n4 : Int) (r0 : List D) (q0 : Nat) (N : Nat) (h :
(Br (decide ((n4 < (((List.length e0) : Nat) : Int))))
((((0 : Int) ≤ n4) ∧
(n4 < (((List.length e0) : Nat) : Int))) ∧
(∀ (N_1 : Nat),
((N ≤ N_1) →
(ACalls prog 11 [(Sh.ag 9)] [PV.dg 9 (List.getD e0 (Int.toNat n4) Inhabited.default)] N_1 (fun (x : D) => (fun (N_2 : Nat) => 
((N_1 ≤ N_2) →
((Bel N_2 x) →
((((0 : Int) ≤ n4) ∧
((n4 < ((m3 : Nat) : Int)) ∧
((0 + (Int.toNat n4) : Nat) < (List.length r0)))) ∧
(((0 + (Int.toNat n4) : Nat) < (List.length r0)) ∧
(L_laws_toTermS_3 Q N0 a0 e0 c0 m3 c3 (IntKind.i64.wrap (n4 + (1 : Int) : Int)) (List.set r0 (0 + (Int.toNat n4) : Nat) x) q0 N_2)))))))))))
(((m3 = (List.length r0)) ∧
(c3 = q0)) ∧
(((m3 = (List.length r0)) ∧
(c3 = q0)) ∧
(((m3 = (List.length r0)) ∧
(c3 = q0)) ∧
(∀ (a : Option Addr),
(∀ (N_3 : Nat),
((N ≤ N_3) →
((Fresh N0 N_3 a [(D.ag r0)]) →
(∀ (N_4 : Nat),
((N_3 ≤ N_4) →
(Q a r0 q0 N_4)))))))))))) : L_laws_toTermS_3 Q N0 a0 e0 c0 m3 c3 n4 r0 q0 N :=
  headE (sh := sh) (H := H_laws_toTermS) (fuel := 400) (by kernel_rfl) (by kernel_rfl) h
end Go.Proofs.YtobhcgffgpcjgaaGreat

/- Printed by gen.py: what the functions come to. -/
set_option linter.unusedVariables false
set_option maxRecDepth 100000
namespace Go.Proofs.YtobhcgffgpcjgaaGreat
open Go Go.Proofs Go.Proofs.Tryz
def H_laws_markTypeS : Hint := { cuts := [{ id := 2, keep := [0, 1, 5] }], joins := [], ords := [(6, [{ i := 0, hard := true }, { i := 1, hard := true }, { i := 2, hard := true }, { i := 3, hard := true }, { i := 4, hard := true }, { i := 5, hard := true }, { i := 6, hard := true, mh := some { place := some 22, keep := [0, 1, 5] } }, { i := 7, hard := true }])] }
def H_laws_markType : Hint := { cuts := [], joins := [], ords := [(1, [{ i := 0, hard := true }, { i := 1, hard := true }, { i := 2, hard := true }, { i := 3, hard := true, mh := some { place := some 5, keep := [1] } }, { i := 4, hard := true }])] }
def H_laws_heldTypeS : Hint := { cuts := [{ id := 2, keep := [0, 1, 5] }], joins := [], ords := [] }
def H_laws_heldType : Hint := { cuts := [], joins := [], ords := [] }
def H_laws_markText : Hint := { cuts := [{ id := 4, keep := [0, 3] }], joins := [], ords := [] }
def H_laws_markTermS : Hint := { cuts := [{ id := 2, keep := [0, 1, 5] }], joins := [], ords := [(14, [{ i := 0, hard := true }, { i := 1, hard := true }, { i := 2, hard := true }, { i := 3, hard := true }, { i := 4, hard := true }, { i := 5, hard := true }, { i := 6, hard := true }, { i := 7, hard := true, mh := some { place := some 54, keep := [0, 1, 5] } }, { i := 8, hard := true }]),
  (17, [{ i := 0, hard := true }, { i := 1, hard := true }, { i := 2, hard := true }, { i := 3, hard := true }, { i := 4, hard := true }, { i := 5, hard := true }, { i := 6, hard := true }, { i := 7, hard := true, mh := some { place := some 70, keep := [0, 1, 5] } }, { i := 8, hard := true }]),
  (18, [{ i := 0, hard := true }, { i := 1, hard := true }, { i := 2, hard := true }, { i := 3, hard := true }, { i := 4, hard := true }, { i := 5, hard := true }, { i := 6, hard := true, mh := some { place := some 77, keep := [0, 1, 5] } }, { i := 7, hard := true }])] }
def H_laws_markTerm : Hint := { cuts := [], joins := [], ords := [(1, [{ i := 0, hard := true }, { i := 1, hard := true }, { i := 2, hard := true }, { i := 3, hard := true, mh := some { place := some 5, keep := [1, 2] } }, { i := 4, hard := true }]),
  (2, [{ i := 0, hard := true }, { i := 1, hard := true }, { i := 2, hard := true }, { i := 3, hard := true, mh := some { place := some 9, keep := [1, 2] } }, { i := 4, hard := true }]),
  (3, [{ i := 0, hard := true }, { i := 1, hard := true }, { i := 2, hard := true }, { i := 3, hard := true, mh := some { place := some 13, keep := [1] } }, { i := 4, hard := true }])] }
def L_laws_markTypeS_2 (Q : QT [.int .i64]) (N0 : Nat) (a0 : Option Addr) (e0 : List D) (c0 : Nat) (n1 : Int) (n5 : Int) (N : Nat) : Prop := AT prog 49 [.int .i64] Q N0 .ord (loopAt prog 49 2) ⟨[.sv a0 2 e0 c0, .int .i64 n1, .any, .any, .any, .int .i64 n5, .any, .any, .any, .any, .any, .any, .any, .any, .any, .any, .any, .any, .any, .any, .any, .any, .any, .any, .any, .any, .any], [], N, none⟩
def L_laws_markTypeS_2_v1 (T : List Nat) (b0 : Nat) (QM : Int → D → Nat → Prop) (N0 : Nat) (m0 : Nat) (c0 : Nat) (n1 : Int) (n5 : Int) (t0 : Nat) (r0 : List D) (q0 : Nat) (N : Nat) : Prop := AT prog 49 [] noQ N0 (.mk T (some b0) (2, 0) QM) (loopAt prog 49 2) ⟨[.sb 0 2 0 m0 c0, .int .i64 n1, .any, .any, .any, .int .i64 n5, .any, .any, .any, .any, .any, .any, .any, .any, .any, .any, .any, .any, .any, .any, .any, .any, .any, .any, .any, .any, .any], [.arr t0 2 r0 q0], N, some (some b0, T)⟩
def L_laws_heldTypeS_2 (Q : QT [.int .i64]) (N0 : Nat) (a0 : Option Addr) (e0 : List D) (c0 : Nat) (n1 : Int) (n5 : Int) (N : Nat) : Prop := AT prog 51 [.int .i64] Q N0 .ord (loopAt prog 51 2) ⟨[.sv a0 2 e0 c0, .int .i64 n1, .any, .any, .any, .int .i64 n5, .any, .any, .any, .any, .any, .any, .any, .any, .any, .any, .any, .any, .any, .any, .any, .any, .any, .any, .any, .any, .any, .any, .any, .any, .any], [], N, none⟩
def L_laws_markText_4 (Q : QT [.str]) (N0 : Nat) (n0 : Int) (s3 : ByteArray) (N : Nat) : Prop := AT prog 48 [.str] Q N0 .ord (loopAt prog 48 4) ⟨[.int .i64 n0, .any, .any, .str s3, .any, .any, .any, .any, .any, .any, .any, .any, .any, .any, .any, .any, .any, .any, .any, .any], [], N, none⟩
def L_laws_markTermS_2 (Q : QT [.int .i64]) (N0 : Nat) (a0 : Option Addr) (e0 : List D) (c0 : Nat) (n1 : Int) (n5 : Int) (N : Nat) : Prop := AT prog 50 [.int .i64] Q N0 .ord (loopAt prog 50 2) ⟨[.sv a0 9 e0 c0, .int .i64 n1, .any, .any, .any, .int .i64 n5, .any, .any, .any, .any, .any, .any, .any, .any, .any, .any, .any, .any, .any, .any, .any, .any, .any, .any, .any, .any, .any, .any, .any, .any, .any, .any, .any, .any, .any, .any, .any, .any, .any, .any, .any, .any, .any, .any, .any, .any, .any, .any, .any, .any, .any, .any, .any, .any, .any, .any, .any, .any, .any, .any, .any, .any, .any, .any, .any, .any, .any, .any, .any, .any, .any, .any, .any, .any, .any, .any, .any, .any, .any, .any, .any, .any], [], N, none⟩
def L_laws_markTermS_2_v1 (T : List Nat) (b0 : Nat) (QM : Int → D → Nat → Prop) (N0 : Nat) (m0 : Nat) (c0 : Nat) (n1 : Int) (n5 : Int) (t0 : Nat) (r0 : List D) (q0 : Nat) (N : Nat) : Prop := AT prog 50 [] noQ N0 (.mk T (some b0) (9, 0) QM) (loopAt prog 50 2) ⟨[.sb 0 9 0 m0 c0, .int .i64 n1, .any, .any, .any, .int .i64 n5, .any, .any, .any, .any, .any, .any, .any, .any, .any, .any, .any, .any, .any, .any, .any, .any, .any, .any, .any, .any, .any, .any, .any, .any, .any, .any, .any, .any, .any, .any, .any, .any, .any, .any, .any, .any, .any, .any, .any, .any, .any, .any, .any, .any, .any, .any, .any, .any, .any, .any, .any, .any, .any, .any, .any, .any, .any, .any, .any, .any, .any, .any, .any, .any, .any, .any, .any, .any, .any, .any, .any, .any, .any, .any, .any, .any], [.arr t0 9 r0 q0], N, some (some b0, T)⟩
theorem w_laws_markTypeS (N : Nat) (a0 : Option Addr) (e0 : List D) (c0 : Nat) (n1 : Int) (Q : QT [.int .i64]) (h :
((Bel N (D.sl a0 2 e0 c0)) →
(L_laws_markTypeS_2 Q N a0 e0 c0 n1 (0 : Int) N))) : ACalls prog 49 [.int .i64] [PV.sv a0 2 e0 c0, PV.int .i64 n1] N Q :=
  entryE (sh := sh) (H := H_laws_markTypeS) (fuel := 400) (by kernel_rfl) (by kernel_rfl) (by kernel_rfl) h
theorem m_laws_markTypeS (N : Nat) (ad : Addr) (e0 : List D) (c0 : Nat) (n1 : Int) (R : D → Int → Nat → Prop) (QM : Int → D → Nat → Prop) (htree : Tree (.sl (some ad) 2 e0 c0)) (hne : e0 ≠ []) (hlen : e0.length ≤ maxLen) (h : ∀ t : Nat,
(L_laws_markTypeS_2_v1 (D.foot (D.sl (Option.some ad) 2 e0 c0)) (Addr.block ad) QM N (List.length e0) c0 n1 (0 : Int) t e0 (List.length e0) N))
    (hQ : ∀ k x N, QM k x N → ∃ es, x = .ag es ∧ es.length = e0.length ∧ footL es = footL e0 ∧ R (.sl (some ad) 2 es c0) k N) : MC prog 49 (.sl (some ad) 2 e0 c0) n1 N R :=
  mcsE (sh := sh) (H := H_laws_markTypeS) (fuel := 400) (by kernel_rfl) (by kernel_rfl) (fun t => by kernel_rfl) htree hne hlen h hQ
theorem m_laws_markType (N : Nat) (cs : List D) (n1 : Int) (R : D → Int → Nat → Prop) (QM : Int → D → Nat → Prop) (hag : IsAg 2 (.ag cs)) (h :
(∃ (a : Option Addr),
(∃ (es : List D),
(∃ (c : Nat),
(((D.cell (D.ag cs) 1) = (D.sl a 2 es c)) ∧
((Tree (D.sl a 2 es c)) ∧
((In (D.foot (D.ag cs)) (D.sl a 2 es c)) ∧
((1 < (List.length (D.cells (D.ag cs)))) ∧
(((D.cell (D.ag cs) 1) = (D.sl a 2 es c)) ∧
((Once (D.cells (D.ag cs))) ∧
((Dis (D.sl a 2 es c) []) ∧
(∀ (N_1 : Nat),
((N ≤ N_1) →
(MC prog 49 (D.sl a 2 es c) n1 N_1 (fun (x : D) => (fun (n : Int) => (fun (N_2 : Nat) => 
((N_1 ≤ N_2) →
(∀ (N_3 : Nat),
((N_2 ≤ N_3) →
(QM n (D.ag (putD 1 [x] (D.cells (D.ag cs)))) N_3)))))))))))))))))))))
    (hQ : ∀ k x N, QM k x N → ∃ cs2, x = .ag cs2 ∧ cs2.map D.cv = cs.map D.cv ∧ footL cs2 = footL cs ∧ R (.ag cs2) k N) : MC prog 18 (.ag cs) n1 N R :=
  mctE (sh := sh) (H := H_laws_markType) (fuel := 400) (xr := (2, 33)) (by kernel_rfl) (by kernel_rfl) (by kernel_rfl) hag h hQ
theorem w_laws_heldTypeS (N : Nat) (a0 : Option Addr) (e0 : List D) (c0 : Nat) (n1 : Int) (Q : QT [.int .i64]) (h :
((Bel N (D.sl a0 2 e0 c0)) →
(L_laws_heldTypeS_2 Q N a0 e0 c0 n1 (0 : Int) N))) : ACalls prog 51 [.int .i64] [PV.sv a0 2 e0 c0, PV.int .i64 n1] N Q :=
  entryE (sh := sh) (H := H_laws_heldTypeS) (fuel := 400) (by kernel_rfl) (by kernel_rfl) (by kernel_rfl) h
theorem w_laws_heldType (N : Nat) (x0 : D) (n1 : Int) (Q : QT [.int .i64]) (h :
((Bel N x0) →
(∃ (a : Option Addr),
(∃ (es : List D),
(∃ (c : Nat),
(((D.cell x0 1) = (D.sl a 2 es c)) ∧
(∀ (N_1 : Nat),
((N ≤ N_1) →
(ACalls prog 51 [(Sh.int IntKind.i64)] [PV.sv a 2 es c, PV.int .i64 n1] N_1 (fun (n : Int) => (fun (N_2 : Nat) => 
((N_1 ≤ N_2) →
(Br (decide ((n < (0 : Int))))
(∀ (N_3 : Nat),
((N_2 ≤ N_3) →
(Q (-1 : Int) N_3)))
(∀ (N_4 : Nat),
((N_2 ≤ N_4) →
(Q n N_4)))))))))))))))) : ACalls prog 19 [.int .i64] [PV.dg 2 x0, PV.int .i64 n1] N Q :=
  entryE (sh := sh) (H := H_laws_heldType) (fuel := 400) (by kernel_rfl) (by kernel_rfl) (by kernel_rfl) h
theorem w_laws_markText (N : Nat) (n0 : Int) (Q : QT [.str]) (h :
(Br (decide ((n0 ≤ (0 : Int))))
(∀ (N_1 : Nat),
((N ≤ N_1) →
(Q (bytes [109, 48]) N_1)))
(L_laws_markText_4 Q N n0 (bytes []) N))) : ACalls prog 48 [.str] [PV.int .i64 n0] N Q :=
  entryE (sh := sh) (H := H_laws_markText) (fuel := 400) (by kernel_rfl) (by kernel_rfl) (by kernel_rfl) h
theorem w_laws_markTermS (N : Nat) (a0 : Option Addr) (e0 : List D) (c0 : Nat) (n1 : Int) (Q : QT [.int .i64]) (h :
((Bel N (D.sl a0 9 e0 c0)) →
(L_laws_markTermS_2 Q N a0 e0 c0 n1 (0 : Int) N))) : ACalls prog 50 [.int .i64] [PV.sv a0 9 e0 c0, PV.int .i64 n1] N Q :=
  entryE (sh := sh) (H := H_laws_markTermS) (fuel := 400) (by kernel_rfl) (by kernel_rfl) (by kernel_rfl) h
theorem m_laws_markTermS (N : Nat) (ad : Addr) (e0 : List D) (c0 : Nat) (n1 : Int) (R : D → Int → Nat → Prop) (QM : Int → D → Nat → Prop) (htree : Tree (.sl (some ad) 9 e0 c0)) (hne : e0 ≠ []) (hlen : e0.length ≤ maxLen) (h : ∀ t : Nat,
(L_laws_markTermS_2_v1 (D.foot (D.sl (Option.some ad) 9 e0 c0)) (Addr.block ad) QM N (List.length e0) c0 n1 (0 : Int) t e0 (List.length e0) N))
    (hQ : ∀ k x N, QM k x N → ∃ es, x = .ag es ∧ es.length = e0.length ∧ footL es = footL e0 ∧ R (.sl (some ad) 9 es c0) k N) : MC prog 50 (.sl (some ad) 9 e0 c0) n1 N R :=
  mcsE (sh := sh) (H := H_laws_markTermS) (fuel := 400) (by kernel_rfl) (by kernel_rfl) (fun t => by kernel_rfl) htree hne hlen h hQ
theorem m_laws_markTerm (N : Nat) (cs : List D) (n1 : Int) (R : D → Int → Nat → Prop) (QM : Int → D → Nat → Prop) (hag : IsAg 9 (.ag cs)) (h :
((Tree (D.sub (D.ag cs) 4 2)) ∧
((In (D.foot (D.ag cs)) (D.sub (D.ag cs) 4 2)) ∧
((6 ≤ (List.length (D.cells (D.ag cs)))) ∧
(((D.sub (D.ag cs) 4 2) = (D.sub (D.ag cs) 4 2)) ∧
((Once (D.cells (D.ag cs))) ∧
((Dis (D.sub (D.ag cs) 4 2) []) ∧
(∀ (N_1 : Nat),
((N ≤ N_1) →
(MC prog 18 (D.sub (D.ag cs) 4 2) n1 N_1 (fun (x : D) => (fun (n : Int) => (fun (N_2 : Nat) => 
((N_1 ≤ N_2) →
((Tree (D.sub (D.ag (putD 4 (D.cells x) (D.cells (D.ag cs)))) 6 2)) ∧
((In (D.foot (D.ag cs)) (D.sub (D.ag (putD 4 (D.cells x) (D.cells (D.ag cs)))) 6 2)) ∧
((8 ≤ (List.length (D.cells (D.ag (putD 4 (D.cells x) (D.cells (D.ag cs))))))) ∧
(((D.sub (D.ag (putD 4 (D.cells x) (D.cells (D.ag cs)))) 6 2) = (D.sub (D.ag (putD 4 (D.cells x) (D.cells (D.ag cs)))) 6 2)) ∧
((Once (D.cells (D.ag (putD 4 (D.cells x) (D.cells (D.ag cs)))))) ∧
((Dis (D.sub (D.ag (putD 4 (D.cells x) (D.cells (D.ag cs)))) 6 2) []) ∧
(∀ (N_3 : Nat),
((N_2 ≤ N_3) →
(MC prog 18 (D.sub (D.ag (putD 4 (D.cells x) (D.cells (D.ag cs)))) 6 2) n N_3 (fun (x_1 : D) => (fun (n_1 : Int) => (fun (N_4 : Nat) => 
((N_3 ≤ N_4) →
(∃ (a : Option Addr),
(∃ (es : List D),
(∃ (c : Nat),
(((D.cell (D.ag (putD 6 (D.cells x_1) (D.cells (D.ag (putD 4 (D.cells x) (D.cells (D.ag cs))))))) 8) = (D.sl a 9 es c)) ∧
((Tree (D.sl a 9 es c)) ∧
((In (D.foot (D.ag cs)) (D.sl a 9 es c)) ∧
((8 < (List.length (D.cells (D.ag (putD 6 (D.cells x_1) (D.cells (D.ag (putD 4 (D.cells x) (D.cells (D.ag cs)))))))))) ∧
(((D.cell (D.ag (putD 6 (D.cells x_1) (D.cells (D.ag (putD 4 (D.cells x) (D.cells (D.ag cs))))))) 8) = (D.sl a 9 es c)) ∧
((Once (D.cells (D.ag (putD 6 (D.cells x_1) (D.cells (D.ag (putD 4 (D.cells x) (D.cells (D.ag cs))))))))) ∧
((Dis (D.sl a 9 es c) []) ∧
(∀ (N_5 : Nat),
((N_4 ≤ N_5) →
(MC prog 50 (D.sl a 9 es c) n_1 N_5 (fun (x_2 : D) => (fun (n_2 : Int) => (fun (N_6 : Nat) => 
((N_5 ≤ N_6) →
(∀ (N_7 : Nat),
((N_6 ≤ N_7) →
(QM n_2 (D.ag (putD 8 [x_2] (D.cells (D.ag (putD 6 (D.cells x_1) (D.cells (D.ag (putD 4 (D.cells x) (D.cells (D.ag cs)))))))))) N_7)))))))))))))))))))))))))))))))))))))))))))))))
    (hQ : ∀ k x N, QM k x N → ∃ cs2, x = .ag cs2 ∧ cs2.map D.cv = cs.map D.cv ∧ footL cs2 = footL cs ∧ R (.ag cs2) k N) : MC prog 17 (.ag cs) n1 N R :=
  mctE (sh := sh) (H := H_laws_markTerm) (fuel := 400) (xr := (2, 40)) (by kernel_rfl) (by kernel_rfl) (by kernel_rfl) hag h hQ
theorem l_laws_markTypeS_2 (Q : QT [.int .i64]) (N0 : Nat) (a0 : Option Addr) (e0 : List D) (c0 : Nat) (n1 : Int) (n5 : Int) (N : Nat) (h :
(Br (decide ((n5 < (((List.length e0) : Nat) : Int))))
((((0 : Int) ≤ n5) ∧
(n5 < (((List.length e0) : Nat) : Int))) ∧
  False)
(∀ (N_1 : Nat),
((N ≤ N_1) →
(Q n1 N_1))))) : L_laws_markTypeS_2 Q N0 a0 e0 c0 n1 n5 N :=
  headE (sh := sh) (H := H_laws_markTypeS) (fuel := 400) (by kernel_rfl) (by kernel_rfl) h
theorem l_laws_markTypeS_2_v1 (T : List Nat) (b0 : Nat) (QM : Int → D → Nat → Prop) (N0 : Nat) (m0 : Nat) (c0 : Nat) (n1 : Int) (n5 : Int) (t0 : Nat) (r0 : List D) (q0 : Nat) (N : Nat) (h :
(Br (decide ((n5 < ((m0 : Nat) : Int))))
((((0 : Int) ≤ n5) ∧
((n5 < ((m0 : Nat) : Int)) ∧
((0 + (Int.toNat n5) : Nat) < (List.length r0)))) ∧
(((0 + (Int.toNat n5) : Nat) < (List.length r0)) ∧
((((0 : Int) ≤ n5) ∧
((n5 < ((m0 : Nat) : Int)) ∧
((0 + (Int.toNat n5) : Nat) < (List.length (List.set r0 (0 + (Int.toNat n5) : Nat) (D.ag (putD 0 [(D.lit (Value.int IntKind.i64 n1))] (D.cells (List.getD r0 (0 + (Int.toNat n5) : Nat) Inhabited.default))))))))) ∧
(((0 + (Int.toNat n5) : Nat) < (List.length (List.set r0 (0 + (Int.toNat n5) : Nat) (D.ag (putD 0 [(D.lit (Value.int IntKind.i64 n1))] (D.cells (List.getD r0 (0 + (Int.toNat n5) : Nat) Inhabited.default))))))) ∧
(∃ (a : Option Addr),
(∃ (es : List D),
(∃ (c : Nat),
(((D.cell (List.getD (List.set r0 (0 + (Int.toNat n5) : Nat) (D.ag (putD 0 [(D.lit (Value.int IntKind.i64 n1))] (D.cells (List.getD r0 (0 + (Int.toNat n5) : Nat) Inhabited.default))))) (0 + (Int.toNat n5) : Nat) Inhabited.default) 1) = (D.sl a 2 es c)) ∧
((Tree (D.sl a 2 es c)) ∧
((In T (D.sl a 2 es c)) ∧
(((0 + (Int.toNat n5) : Nat) < (List.length (List.set r0 (0 + (Int.toNat n5) : Nat) (D.ag (putD 0 [(D.lit (Value.int IntKind.i64 n1))] (D.cells (List.getD r0 (0 + (Int.toNat n5) : Nat) Inhabited.default))))))) ∧
((1 < (List.length (D.cells (List.getD (List.set r0 (0 + (Int.toNat n5) : Nat) (D.ag (putD 0 [(D.lit (Value.int IntKind.i64 n1))] (D.cells (List.getD r0 (0 + (Int.toNat n5) : Nat) Inhabited.default))))) (0 + (Int.toNat n5) : Nat) Inhabited.default)))) ∧
(((D.cell (List.getD (List.set r0 (0 + (Int.toNat n5) : Nat) (D.ag (putD 0 [(D.lit (Value.int IntKind.i64 n1))] (D.cells (List.getD r0 (0 + (Int.toNat n5) : Nat) Inhabited.default))))) (0 + (Int.toNat n5) : Nat) Inhabited.default) 1) = (D.sl a 2 es c)) ∧
((Once (List.set r0 (0 + (Int.toNat n5) : Nat) (D.ag (putD 0 [(D.lit (Value.int IntKind.i64 n1))] (D.cells (List.getD r0 (0 + (Int.toNat n5) : Nat) Inhabited.default)))))) ∧
((Dis (D.sl a 2 es c) []) ∧
(∀ (N_1 : Nat),
((N ≤ N_1) →
(MC prog 49 (D.sl a 2 es c) (IntKind.i64.wrap (n1 + (1 : Int) : Int)) N_1 (fun (x : D) => (fun (n : Int) => (fun (N_2 : Nat) => 
((N_1 ≤ N_2) →
(L_laws_markTypeS_2_v1 T b0 QM N0 m0 c0 n (IntKind.i64.wrap (n5 + (1 : Int) : Int)) t0 (List.set (List.set r0 (0 + (Int.toNat n5) : Nat) (D.ag (putD 0 [(D.lit (Value.int IntKind.i64 n1))] (D.cells (List.getD r0 (0 + (Int.toNat n5) : Nat) Inhabited.default))))) (0 + (Int.toNat n5) : Nat) (D.ag (putD 1 [x] (D.cells (List.getD (List.set r0 (0 + (Int.toNat n5) : Nat) (D.ag (putD 0 [(D.lit (Value.int IntKind.i64 n1))] (D.cells (List.getD r0 (0 + (Int.toNat n5) : Nat) Inhabited.default))))) (0 + (Int.toNat n5) : Nat) Inhabited.default))))) q0 N_2)))))))))))))))))))))))
((b0 = b0) ∧
(∀ (N_3 : Nat),
((N ≤ N_3) →
(QM n1 (D.ag r0) N_3)))))) : L_laws_markTypeS_2_v1 T b0 QM N0 m0 c0 n1 n5 t0 r0 q0 N :=
  headE (sh := sh) (H := H_laws_markTypeS) (fuel := 400) (by kernel_rfl) (by kernel_rfl) h
theorem l_laws_heldTypeS_2 (Q : QT [.int .i64]) (N0 : Nat) (a0 : Option Addr) (e0 : List D) (c0 : Nat) (n1 : Int) (n5 : Int) (N : Nat) (h :
(Br (decide ((n5 < (((List.length e0) : Nat) : Int))))
((((0 : Int) ≤ n5) ∧
(n5 < (((List.length e0) : Nat) : Int))) ∧
(∃ (n : Int),
(((if (0 = 0) then (D.cell (List.getD e0 (Int.toNat n5) Inhabited.default) 0) else (D.sub (List.getD e0 (Int.toNat n5) Inhabited.default) 0 0)) = (D.lit (Value.int IntKind.i64 n))) ∧
(Br (bne n n1)
(∀ (N_1 : Nat),
((N ≤ N_1) →
(Q (-1 : Int) N_1)))
((((0 : Int) ≤ n5) ∧
(n5 < (((List.length e0) : Nat) : Int))) ∧
(∃ (a : Option Addr),
(∃ (es : List D),
(∃ (c : Nat),
(((if (0 = 0) then (D.cell (List.getD e0 (Int.toNat n5) Inhabited.default) 1) else (D.sub (List.getD e0 (Int.toNat n5) Inhabited.default) 1 0)) = (D.sl a 2 es c)) ∧
(∀ (N_2 : Nat),
((N ≤ N_2) →
(ACalls prog 51 [(Sh.int IntKind.i64)] [PV.sv a 2 es c, PV.int .i64 (IntKind.i64.wrap (n1 + (1 : Int) : Int))] N_2 (fun (n_1 : Int) => (fun (N_3 : Nat) => 
((N_2 ≤ N_3) →
(Br (decide ((n_1 < (0 : Int))))
(∀ (N_4 : Nat),
((N_3 ≤ N_4) →
(Q (-1 : Int) N_4)))
(L_laws_heldTypeS_2 Q N0 a0 e0 c0 n_1 (IntKind.i64.wrap (n5 + (1 : Int) : Int)) N_3)))))))))))))))))
(∀ (N_5 : Nat),
((N ≤ N_5) →
(Q n1 N_5))))) : L_laws_heldTypeS_2 Q N0 a0 e0 c0 n1 n5 N :=
  headE (sh := sh) (H := H_laws_heldTypeS) (fuel := 400) (by kernel_rfl) (by kernel_rfl) h
theorem l_laws_markText_4 (Q : QT [.str]) (N0 : Nat) (n0 : Int) (s3 : ByteArray) (N : Nat) (h :
(Br (decide ((n0 > (0 : Int))))
(((10 : Int) ≠ (0 : Int)) ∧
((1 ≤ (List.length [(D.lit (Value.int IntKind.u8 (IntKind.u8.wrap (IntKind.i64.wrap ((48 : Int) + (Int.tmod n0 (10 : Int)) : Int)))))])) ∧
(∃ (es : List Int),
(((List.take 1 [(D.lit (Value.int IntKind.u8 (IntKind.u8.wrap (IntKind.i64.wrap ((48 : Int) + (Int.tmod n0 (10 : Int)) : Int)))))]) = (List.map (fun (n : Int) => (D.lit (Value.int IntKind.u8 n))) es)) ∧
((((ByteArray.size (bytesOf es)) + (ByteArray.size s3) : Nat) ≤ 9223372036854775807) ∧
(((10 : Int) ≠ (0 : Int)) ∧
(L_laws_markText_4 Q N0 (IntKind.i64.wrap (Int.tdiv n0 (10 : Int))) ((bytesOf es) ++ s3) N)))))))
(((1 + (ByteArray.size s3) : Nat) ≤ 9223372036854775807) ∧
(∀ (N_1 : Nat),
((N ≤ N_1) →
(Q ((bytes [109]) ++ s3) N_1)))))) : L_laws_markText_4 Q N0 n0 s3 N :=
  headE (sh := sh) (H := H_laws_markText) (fuel := 400) (by kernel_rfl) (by kernel_rfl) h
theorem l_laws_markTermS_2 (Q : QT [.int .i64]) (N0 : Nat) (a0 : Option Addr) (e0 : List D) (c0 : Nat) (n1 : Int) (n5 : Int) (N : Nat) (h :
(Br (decide ((n5 < (((List.length e0) : Nat) : Int))))
((((0 : Int) ≤ n5) ∧
(n5 < (((List.length e0) : Nat) : Int))) ∧
  False)
(∀ (N_1 : Nat),
((N ≤ N_1) →
(Q n1 N_1))))) : L_laws_markTermS_2 Q N0 a0 e0 c0 n1 n5 N :=
  headE (sh := sh) (H := H_laws_markTermS) (fuel := 400) (by kernel_rfl) (by kernel_rfl) h
theorem l_laws_markTermS_2_v1 (T : List Nat) (b0 : Nat) (QM : Int → D → Nat → Prop) (N0 : Nat) (m0 : Nat) (c0 : Nat) (n1 : Int) (n5 : Int) (t0 : Nat) (r0 : List D) (q0 : Nat) (N : Nat) (h :

(let r_1 : List D := (List.set r0 (0 + (Int.toNat n5) : Nat) (D.ag (putD 0 [(D.lit (Value.int
  IntKind.i64 n1))] (D.cells (List.getD r0 (0 + (Int.toNat n5) : Nat) Inhabited.default)))));
  (Br (decide ((n5 < ((m0 : Nat) : Int)))) ((((0 : Int) ≤ n5) ∧ ((n5 < ((m0 : Nat) : Int)) ∧ ((0
  + (Int.toNat n5) : Nat) < (List.length r0)))) ∧ (((0 + (Int.toNat n5) : Nat) < (List.length
  r0)) ∧ (∀ (N_1 : Nat), ((N ≤ N_1) → (ACalls prog 48 [Sh.str] [PV.int .i64 (IntKind.i64.wrap
  (n1 + (1 : Int) : Int))] N_1 (fun (s : ByteArray) => 
(let r_2 : List D := (List.set r_1 (0 + (Int.toNat n5) : Nat) (D.ag (putD 1 [(D.lit (Value.string
  s))] (D.cells (List.getD r_1 (0 + (Int.toNat n5) : Nat) Inhabited.default))))); (fun (N_2 :
  Nat) => ((N_1 ≤ N_2) → ((((0 : Int) ≤ n5) ∧ ((n5 < ((m0 : Nat) : Int)) ∧ ((0 + (Int.toNat n5)
  : Nat) < (List.length r_1)))) ∧ (((0 + (Int.toNat n5) : Nat) < (List.length r_1)) ∧ (∀ (N_3
  : Nat), ((N_2 ≤ N_3) → (ACalls prog 48 [Sh.str] [PV.int .i64 (IntKind.i64.wrap ((IntKind.i64.wrap
  (n1 + (1 : Int) : Int)) + (1 : Int) : Int))] N_3 (fun (s_1 : ByteArray) => 
(let r_3 : List D := (List.set r_2 (0 + (Int.toNat n5) : Nat) (D.ag (putD 2 [(D.lit (Value.string
  s_1))] (D.cells (List.getD r_2 (0 + (Int.toNat n5) : Nat) Inhabited.default))))); 
(let r_4 : List D := (List.set r_3 (0 + (Int.toNat n5) : Nat) (D.ag (putD 3 [(D.lit (Value.int
  IntKind.i64 (IntKind.i64.wrap ((IntKind.i64.wrap ((IntKind.i64.wrap (n1 + (1 : Int) : Int))
  + (1 : Int) : Int)) + (1 : Int) : Int))))] (D.cells (List.getD r_3 (0 + (Int.toNat n5) : Nat)
  Inhabited.default))))); 
(let r_5 : List D := (List.set r_4 (0 + (Int.toNat n5) : Nat) (D.ag (putD 4 [(D.lit (Value.int
  IntKind.i64 (IntKind.i64.wrap ((IntKind.i64.wrap ((IntKind.i64.wrap ((IntKind.i64.wrap (n1 +
  (1 : Int) : Int)) + (1 : Int) : Int)) + (1 : Int) : Int)) + (1 : Int) : Int))))] (D.cells (List.getD
  r_4 (0 + (Int.toNat n5) : Nat) Inhabited.default))))); (fun (N_4 : Nat) => ((N_3 ≤ N_4) → ((((0
  : Int) ≤ n5) ∧ ((n5 < ((m0 : Nat) : Int)) ∧ ((0 + (Int.toNat n5) : Nat) < (List.length r_2))))
  ∧ (((0 + (Int.toNat n5) : Nat) < (List.length r_2)) ∧ ((((0 : Int) ≤ n5) ∧ ((n5 < ((m0 : Nat)
  : Int)) ∧ ((0 + (Int.toNat n5) : Nat) < (List.length r_3)))) ∧ (((0 + (Int.toNat n5) : Nat)
  < (List.length r_3)) ∧ ((((0 : Int) ≤ n5) ∧ ((n5 < ((m0 : Nat) : Int)) ∧ ((0 + (Int.toNat n5)
  : Nat) < (List.length r_4)))) ∧ (((0 + (Int.toNat n5) : Nat) < (List.length r_4)) ∧ ((((0 :
  Int) ≤ n5) ∧ ((n5 < ((m0 : Nat) : Int)) ∧ ((0 + (Int.toNat n5) : Nat) < (List.length r_5))))
  ∧ (((0 + (Int.toNat n5) : Nat) < (List.length r_5)) ∧ (∃ (a : Option Addr), (∃ (es : List D),
  (∃ (c : Nat), (((D.cell (List.getD r_5 (0 + (Int.toNat n5) : Nat) Inhabited.default) 5) = (D.sl
  a 2 es c)) ∧ ((Tree (D.sl a 2 es c)) ∧ ((In T (D.sl a 2 es c)) ∧ (((0 + (Int.toNat n5) : Nat)
  < (List.length r_5)) ∧ ((5 < (List.length (D.cells (List.getD r_5 (0 + (Int.toNat n5) : Nat)
  Inhabited.default)))) ∧ (((D.cell (List.getD r_5 (0 + (Int.toNat n5) : Nat) Inhabited.default)
  5) = (D.sl a 2 es c)) ∧ ((Once r_5) ∧ ((Dis (D.sl a 2 es c) []) ∧ (∀ (N_5 : Nat), ((N_4 ≤ N_5)
  → (MC prog 49 (D.sl a 2 es c) (IntKind.i64.wrap ((IntKind.i64.wrap ((IntKind.i64.wrap ((IntKind.i64.wrap
  ((IntKind.i64.wrap (n1 + (1 : Int) : Int)) + (1 : Int) : Int)) + (1 : Int) : Int)) + (1 : Int)
  : Int)) + (1 : Int) : Int)) N_5 (fun (x : D) => 
(let r_6 : List D := (List.set r_5 (0 + (Int.toNat n5) : Nat) (D.ag (putD 5 [x] (D.cells (List.getD
  r_5 (0 + (Int.toNat n5) : Nat) Inhabited.default))))); (fun (n : Int) => 
(let r_7 : List D := (List.set r_6 (0 + (Int.toNat n5) : Nat) (D.ag (putD 6 [(D.lit (Value.int
  IntKind.i64 n))] (D.cells (List.getD r_6 (0 + (Int.toNat n5) : Nat) Inhabited.default)))));
  (fun (N_6 : Nat) => ((N_5 ≤ N_6) → ((((0 : Int) ≤ n5) ∧ ((n5 < ((m0 : Nat) : Int)) ∧ ((0 + (Int.toNat
  n5) : Nat) < (List.length r_6)))) ∧ (((0 + (Int.toNat n5) : Nat) < (List.length r_6)) ∧ ((((0
  : Int) ≤ n5) ∧ ((n5 < ((m0 : Nat) : Int)) ∧ ((0 + (Int.toNat n5) : Nat) < (List.length r_7))))
  ∧ (((0 + (Int.toNat n5) : Nat) < (List.length r_7)) ∧ (∃ (a_1 : Option Addr), (∃ (es_1 : List
  D), (∃ (c_1 : Nat), (((D.cell (List.getD r_7 (0 + (Int.toNat n5) : Nat) Inhabited.default) 7)
  = (D.sl a_1 2 es_1 c_1)) ∧ ((Tree (D.sl a_1 2 es_1 c_1)) ∧ ((In T (D.sl a_1 2 es_1 c_1)) ∧ (((0
  + (Int.toNat n5) : Nat) < (List.length r_7)) ∧ ((7 < (List.length (D.cells (List.getD r_7 (0
  + (Int.toNat n5) : Nat) Inhabited.default)))) ∧ (((D.cell (List.getD r_7 (0 + (Int.toNat n5)
  : Nat) Inhabited.default) 7) = (D.sl a_1 2 es_1 c_1)) ∧ ((Once r_7) ∧ ((Dis (D.sl a_1 2 es_1
  c_1) []) ∧ (∀ (N_7 : Nat), ((N_6 ≤ N_7) → (MC prog 49 (D.sl a_1 2 es_1 c_1) (IntKind.i64.wrap
  (n + (1 : Int) : Int)) N_7 (fun (x_1 : D) => 
(let r_8 : List D := (List.set r_7 (0 + (Int.toNat n5) : Nat) (D.ag (putD 7 [x_1] (D.cells
  (List.getD r_7 (0 + (Int.toNat n5) : Nat) Inhabited.default))))); (fun (n_1 : Int) => (fun (N_8
  : Nat) => ((N_7 ≤ N_8) → ((((0 : Int) ≤ n5) ∧ ((n5 < ((m0 : Nat) : Int)) ∧ ((0 + (Int.toNat
  n5) : Nat) < (List.length r_8)))) ∧ (((0 + (Int.toNat n5) : Nat) < (List.length r_8)) ∧ (∃ (a_2
  : Option Addr), (∃ (es_2 : List D), (∃ (c_2 : Nat), (((D.cell (List.getD r_8 (0 + (Int.toNat
  n5) : Nat) Inhabited.default) 8) = (D.sl a_2 9 es_2 c_2)) ∧ ((Tree (D.sl a_2 9 es_2 c_2)) ∧
  ((In T (D.sl a_2 9 es_2 c_2)) ∧ (((0 + (Int.toNat n5) : Nat) < (List.length r_8)) ∧ ((8 < (List.length
  (D.cells (List.getD r_8 (0 + (Int.toNat n5) : Nat) Inhabited.default)))) ∧ (((D.cell (List.getD
  r_8 (0 + (Int.toNat n5) : Nat) Inhabited.default) 8) = (D.sl a_2 9 es_2 c_2)) ∧ ((Once r_8)
  ∧ ((Dis (D.sl a_2 9 es_2 c_2) []) ∧ (∀ (N_9 : Nat), ((N_8 ≤ N_9) → (MC prog 50 (D.sl a_2 9 es_2
  c_2) n_1 N_9 (fun (x_2 : D) => (fun (n_2 : Int) => (fun (N_10 : Nat) => ((N_9 ≤ N_10) → (L_laws_markTermS_2_v1
  T b0 QM N0 m0 c0 n_2 (IntKind.i64.wrap (n5 + (1 : Int) : Int)) t0 (List.set r_8 (0 + (Int.toNat
  n5) : Nat) (D.ag (putD 8 [x_2] (D.cells (List.getD r_8 (0 + (Int.toNat n5) : Nat) Inhabited.default)))))
  q0 N_10))))))))))))))))))))))))))))))))))))))))))))))))))))))))))))))))))))))))))))))))))))))))))))
  ((b0 = b0) ∧ (∀ (N_11 : Nat), ((N ≤ N_11) → (QM n1 (D.ag r0) N_11))))))) : L_laws_markTermS_2_v1 T b0 QM N0 m0 c0 n1 n5 t0 r0 q0 N :=
  headE (sh := sh) (H := H_laws_markTermS) (fuel := 400) (by kernel_rfl) (by kernel_rfl) h
end Go.Proofs.YtobhcgffgpcjgaaGreat

/- Printed by gen.py: what the functions come to. -/
set_option linter.unusedVariables false
set_option maxRecDepth 100000
namespace Go.Proofs.YtobhcgffgpcjgaaGreat
open Go Go.Proofs Go.Proofs.Tryz
def H_laws_eqType : Hint := { cuts := [], joins := [], ords := [] }
def H_laws_eqTypeS : Hint := { cuts := [{ id := 4, keep := [0, 1, 5] }], joins := [], ords := [(6, [{ i := 0 }, { i := 1 }, { i := 2 }, { i := 3 }, { i := 4 }, { i := 5 }, { i := 6 }, { i := 7 }, { i := 8, hard := true, cl := [20, 24] }, { i := 9 }])] }
def H_laws_eqTerm : Hint := { cuts := [], joins := [], ords := [(9, [{ i := 0, hard := true }, { i := 1, hard := true }, { i := 2, hard := true }, { i := 3, hard := true }, { i := 4, hard := true, cl := [26, 28] }, { i := 5, hard := true }]),
  (11, [{ i := 0, hard := true }, { i := 1, hard := true }, { i := 2, hard := true }, { i := 3, hard := true }, { i := 4, hard := true, cl := [32, 34] }, { i := 5, hard := true }])] }
def H_laws_eqTermS : Hint := { cuts := [{ id := 4, keep := [0, 1, 5] }], joins := [], ords := [(6, [{ i := 0 }, { i := 1 }, { i := 2 }, { i := 3 }, { i := 4 }, { i := 5 }, { i := 6 }, { i := 7 }, { i := 8, hard := true, cl := [20, 24] }, { i := 9 }])] }
def L_laws_eqTypeS_4 (Q : QT [.bool]) (N0 : Nat) (a0 : Option Addr) (e0 : List D) (c0 : Nat) (a1 : Option Addr) (e1 : List D) (c1 : Nat) (n5 : Int) (N : Nat) : Prop := AT prog 45 [.bool] Q N0 .ord (loopAt prog 45 4) ⟨[.sv a0 2 e0 c0, .sv a1 2 e1 c1, .any, .any, .any, .int .i64 n5, .any, .any, .any, .any, .any, .any, .any, .any, .any, .any, .any, .any, .any, .any, .any, .any, .any, .any, .any, .any, .any], [], N, none⟩
def L_laws_eqTermS_4 (Q : QT [.bool]) (N0 : Nat) (a0 : Option Addr) (e0 : List D) (c0 : Nat) (a1 : Option Addr) (e1 : List D) (c1 : Nat) (n5 : Int) (N : Nat) : Prop := AT prog 47 [.bool] Q N0 .ord (loopAt prog 47 4) ⟨[.sv a0 9 e0 c0, .sv a1 9 e1 c1, .any, .any, .any, .int .i64 n5, .any, .any, .any, .any, .any, .any, .any, .any, .any, .any, .any, .any, .any, .any, .any, .any, .any, .any, .any, .any, .any], [], N, none⟩
theorem w_laws_eqType (N : Nat) (x0 : D) (x1 : D) (Q : QT [.bool]) (h :
((Bel N x0) →
((Bel N x1) →
(∃ (n : Int),
(((D.cell x0 0) = (D.lit (Value.int IntKind.i64 n))) ∧
(∃ (n_1 : Int),
(((D.cell x1 0) = (D.lit (Value.int IntKind.i64 n_1))) ∧
(Br (bne n n_1)
(∀ (N_1 : Nat),
((N ≤ N_1) →
(Q false N_1)))
(∃ (a : Option Addr),
(∃ (es : List D),
(∃ (c : Nat),
(((D.cell x0 1) = (D.sl a 2 es c)) ∧
(∃ (a_1 : Option Addr),
(∃ (es_1 : List D),
(∃ (c_1 : Nat),
(((D.cell x1 1) = (D.sl a_1 2 es_1 c_1)) ∧
(∀ (N_2 : Nat),
((N ≤ N_2) →
(ACalls prog 45 [Sh.bool] [PV.sv a 2 es c, PV.sv a_1 2 es_1 c_1] N_2 (fun (b : Bool) => (fun (N_3 : Nat) => 
((N_2 ≤ N_3) →
(Br (!b)
(∀ (N_4 : Nat),
((N_3 ≤ N_4) →
(Q false N_4)))
(∀ (N_5 : Nat),
((N_3 ≤ N_5) →
(Q true N_5)))))))))))))))))))))))))) : ACalls prog 13 [.bool] [PV.dg 2 x0, PV.dg 2 x1] N Q :=
  entryE (sh := sh) (H := H_laws_eqType) (fuel := 400) (by kernel_rfl) (by kernel_rfl) (by kernel_rfl) h
theorem w_laws_eqTypeS (N : Nat) (a0 : Option Addr) (e0 : List D) (c0 : Nat) (a1 : Option Addr) (e1 : List D) (c1 : Nat) (Q : QT [.bool]) (h :
((Bel N (D.sl a0 2 e0 c0)) →
((Bel N (D.sl a1 2 e1 c1)) →
(Br (bne (((List.length e0) : Nat) : Int) (((List.length e1) : Nat) : Int))
(∀ (N_1 : Nat),
((N ≤ N_1) →
(Q false N_1)))
(L_laws_eqTypeS_4 Q N a0 e0 c0 a1 e1 c1 (0 : Int) N))))) : ACalls prog 45 [.bool] [PV.sv a0 2 e0 c0, PV.sv a1 2 e1 c1] N Q :=
  entryE (sh := sh) (H := H_laws_eqTypeS) (fuel := 400) (by kernel_rfl) (by kernel_rfl) (by kernel_rfl) h
theorem w_laws_eqTerm (N : Nat) (x0 : D) (x1 : D) (Q : QT [.bool]) (h :
((Bel N x0) →
((Bel N x1) →
(∃ (n : Int),
(((D.cell x0 0) = (D.lit (Value.int IntKind.i64 n))) ∧
(∃ (n_1 : Int),
(((D.cell x1 0) = (D.lit (Value.int IntKind.i64 n_1))) ∧
(Br (bne n n_1)
(∀ (N_1 : Nat),
((N ≤ N_1) →
(Q false N_1)))
(∃ (s : ByteArray),
(((D.cell x0 1) = (D.lit (Value.string s))) ∧
(∃ (s_1 : ByteArray),
(((D.cell x1 1) = (D.lit (Value.string s_1))) ∧
(Br (!((ByteArray.toList s) == (ByteArray.toList s_1)))
(∀ (N_2 : Nat),
((N ≤ N_2) →
(Q false N_2)))
(∃ (s_2 : ByteArray),
(((D.cell x0 2) = (D.lit (Value.string s_2))) ∧
(∃ (s_3 : ByteArray),
(((D.cell x1 2) = (D.lit (Value.string s_3))) ∧
(Br (!((ByteArray.toList s_2) == (ByteArray.toList s_3)))
(∀ (N_3 : Nat),
((N ≤ N_3) →
(Q false N_3)))
(∃ (n_2 : Int),
(((D.cell x0 3) = (D.lit (Value.int IntKind.i64 n_2))) ∧
(∃ (n_3 : Int),
(((D.cell x1 3) = (D.lit (Value.int IntKind.i64 n_3))) ∧
(Br (bne n_2 n_3)
(∀ (N_4 : Nat),
((N ≤ N_4) →
(Q false N_4)))
(∀ (N_5 : Nat),
((N ≤ N_5) →
(ACalls prog 13 [Sh.bool] [PV.dg 2 (D.sub x0 4 2), PV.dg 2 (D.sub x1 4 2)] N_5 (fun (b : Bool) => (fun (N_6 : Nat) => 
((N_5 ≤ N_6) →
(Br (!b)
(∀ (N_7 : Nat),
((N_6 ≤ N_7) →
(Q false N_7)))
(∀ (N_8 : Nat),
((N_6 ≤ N_8) →
(ACalls prog 13 [Sh.bool] [PV.dg 2 (D.sub x0 6 2), PV.dg 2 (D.sub x1 6 2)] N_8 (fun (b_1 : Bool) => (fun (N_9 : Nat) => 
((N_8 ≤ N_9) →
(Br (!b_1)
(∀ (N_10 : Nat),
((N_9 ≤ N_10) →
(Q false N_10)))
(∃ (a : Option Addr),
(∃ (es : List D),
(∃ (c : Nat),
(((D.cell x0 8) = (D.sl a 9 es c)) ∧
(∃ (a_1 : Option Addr),
(∃ (es_1 : List D),
(∃ (c_1 : Nat),
(((D.cell x1 8) = (D.sl a_1 9 es_1 c_1)) ∧
(∀ (N_11 : Nat),
((N_9 ≤ N_11) →
(ACalls prog 47 [Sh.bool] [PV.sv a 9 es c, PV.sv a_1 9 es_1 c_1] N_11 (fun (b_2 : Bool) => (fun (N_12 : Nat) => 
((N_11 ≤ N_12) →
(Br (!b_2)
(∀ (N_13 : Nat),
((N_12 ≤ N_13) →
(Q false N_13)))
(∀ (N_14 : Nat),
((N_12 ≤ N_14) →
(Q true N_14))))))))))))))))))))))))))))))))))))))))))))))))))))))) : ACalls prog 15 [.bool] [PV.dg 9 x0, PV.dg 9 x1] N Q :=
  entryE (sh := sh) (H := H_laws_eqTerm) (fuel := 400) (by kernel_rfl) (by kernel_rfl) (by kernel_rfl) h
theorem w_laws_eqTermS (N : Nat) (a0 : Option Addr) (e0 : List D) (c0 : Nat) (a1 : Option Addr) (e1 : List D) (c1 : Nat) (Q : QT [.bool]) (h :
((Bel N (D.sl a0 9 e0 c0)) →
((Bel N (D.sl a1 9 e1 c1)) →
(Br (bne (((List.length e0) : Nat) : Int) (((List.length e1) : Nat) : Int))
(∀ (N_1 : Nat),
((N ≤ N_1) →
(Q false N_1)))
(L_laws_eqTermS_4 Q N a0 e0 c0 a1 e1 c1 (0 : Int) N))))) : ACalls prog 47 [.bool] [PV.sv a0 9 e0 c0, PV.sv a1 9 e1 c1] N Q :=
  entryE (sh := sh) (H := H_laws_eqTermS) (fuel := 400) (by kernel_rfl) (by kernel_rfl) (by kernel_rfl) h
theorem l_laws_eqTypeS_4 (Q : QT [.bool]) (N0 : Nat) (a0 : Option Addr) (e0 : List D) (c0 : Nat) (a1 : Option Addr) (e1 : List D) (c1 : Nat) (n5 : Int) (N : Nat) (h :
(Br (decide ((n5 < (((List.length e0) : Nat) : Int))))
((((0 : Int) ≤ n5) ∧
(n5 < (((List.length e0) : Nat) : Int))) ∧
((((0 : Int) ≤ n5) ∧
(n5 < (((List.length e1) : Nat) : Int))) ∧
(∀ (N_1 : Nat),
((N ≤ N_1) →
(ACalls prog 13 [Sh.bool] [PV.dg 2 (List.getD e0 (Int.toNat n5) Inhabited.default), PV.dg 2 (List.getD e1 (Int.toNat n5) Inhabited.default)] N_1 (fun (b : Bool) => (fun (N_2 : Nat) => 
((N_1 ≤ N_2) →
(Br (!b)
(∀ (N_3 : Nat),
((N_2 ≤ N_3) →
(Q false N_3)))
(L_laws_eqTypeS_4 Q N0 a0 e0 c0 a1 e1 c1 (IntKind.i64.wrap (n5 + (1 : Int) : Int)) N_2))))))))))
(∀ (N_4 : Nat),
((N ≤ N_4) →
(Q true N_4))))) : L_laws_eqTypeS_4 Q N0 a0 e0 c0 a1 e1 c1 n5 N :=
  headE (sh := sh) (H := H_laws_eqTypeS) (fuel := 400) (by kernel_rfl) (by kernel_rfl) h
theorem l_laws_eqTermS_4 (Q : QT [.bool]) (N0 : Nat) (a0 : Option Addr) (e0 : List D) (c0 : Nat) (a1 : Option Addr) (e1 : List D) (c1 : Nat) (n5 : Int) (N : Nat) (h :
(Br (decide ((n5 < (((List.length e0) : Nat) : Int))))
((((0 : Int) ≤ n5) ∧
(n5 < (((List.length e0) : Nat) : Int))) ∧
((((0 : Int) ≤ n5) ∧
(n5 < (((List.length e1) : Nat) : Int))) ∧
(∀ (N_1 : Nat),
((N ≤ N_1) →
(ACalls prog 15 [Sh.bool] [PV.dg 9 (List.getD e0 (Int.toNat n5) Inhabited.default), PV.dg 9 (List.getD e1 (Int.toNat n5) Inhabited.default)] N_1 (fun (b : Bool) => (fun (N_2 : Nat) => 
((N_1 ≤ N_2) →
(Br (!b)
(∀ (N_3 : Nat),
((N_2 ≤ N_3) →
(Q false N_3)))
(L_laws_eqTermS_4 Q N0 a0 e0 c0 a1 e1 c1 (IntKind.i64.wrap (n5 + (1 : Int) : Int)) N_2))))))))))
(∀ (N_4 : Nat),
((N ≤ N_4) →
(Q true N_4))))) : L_laws_eqTermS_4 Q N0 a0 e0 c0 a1 e1 c1 n5 N :=
  headE (sh := sh) (H := H_laws_eqTermS) (fuel := 400) (by kernel_rfl) (by kernel_rfl) h

end Go.Proofs.YtobhcgffgpcjgaaGreat
