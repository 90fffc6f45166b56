/- Printed by gen.py: what the functions come to. -/
import Derived.Test.YtobhcgffgpcjgaaGreatJh
set_option linter.unusedVariables false
set_option maxRecDepth 100000
namespace Go.Proofs.YtobhcgffgpcjgaaGreat
open Go Go.Proofs Go.Proofs.Tryz
def H_laws_szParam : Hint := { cuts := [], joins := [], ords := [(4, [{ i := 0, hard := true }, { i := 1, hard := true }, { i := 2, hard := true }, { i := 3, hard := true, cl := [13] }, { i := 4, hard := true }])] }
def H_laws_szParamS : Hint := { cuts := [{ id := 5, keep := [0, 1, 5] }], joins := [], ords := [(7, [{ i := 0, hard := true }, { i := 1, hard := true }, { i := 2, hard := true }, { i := 3, hard := true }, { i := 4, hard := true }, { i := 5, hard := true, cl := [21] }, { i := 6, hard := true }])] }
def H_laws_toParam : Hint := { cuts := [], joins := [], ords := [(3, [{ i := 0, hard := true }, { i := 1, hard := true }, { i := 2, hard := true, cl := [8] }, { i := 3, hard := true }, { i := 4, hard := true }])] }
def H_laws_toParamS : Hint := { cuts := [{ id := 3, keep := [0, 3, 4] }], joins := [], ords := [(5, [{ i := 0, hard := true }, { i := 1, hard := true }, { i := 2, hard := true }, { i := 3, hard := true }, { i := 4, hard := true }, { i := 5, hard := true }, { i := 6, hard := true, cl := [19] }, { i := 7, hard := true }, { i := 8, hard := true }])] }
def H_laws_eqParam : Hint := { cuts := [], joins := [], ords := [(3, [{ i := 0, hard := true }, { i := 1, hard := true }, { i := 2, hard := true }, { i := 3, hard := true }, { i := 4, hard := true, cl := [11, 13] }, { i := 5, hard := true }])] }
def H_laws_eqParamS : Hint := { cuts := [{ id := 4, keep := [0, 1, 5] }], joins := [], ords := [(6, [{ i := 0 }, { i := 1 }, { i := 2 }, { i := 3 }, { i := 4 }, { i := 5 }, { i := 6 }, { i := 7 }, { i := 8, hard := true, cl := [20, 24] }, { i := 9 }])] }
def H_laws_markParamS : Hint := { cuts := [{ id := 2, keep := [0, 1, 5] }], joins := [], ords := [(8, [{ i := 0, hard := true }, { i := 1, hard := true }, { i := 2, hard := true }, { i := 3, hard := true }, { i := 4, hard := true }, { i := 5, hard := true }, { i := 6, hard := true }, { i := 7, hard := true, mh := some { place := some 32, keep := [0, 1, 5] } }, { i := 8, hard := true }])] }
def L_laws_szParamS_5 (Q : QT [.int .i64]) (N0 : Nat) (a0 : Option Addr) (e0 : List D) (c0 : Nat) (n1 : Int) (n5 : Int) (N : Nat) : Prop := AT prog 20 [.int .i64] Q N0 .ord (loopAt prog 20 5) ⟨[.sv a0 4 e0 c0, .int .i64 n1, .any, .any, .any, .int .i64 n5, .any, .any, .any, .any, .any, .any, .any, .any, .any, .any, .any, .any, .any, .any, .any, .any, .any, .any, .any, .any, .any], [], N, none⟩
def L_laws_toParamS_3 (Q : QT [.sl 4]) (N0 : Nat) (a0 : Option Addr) (e0 : List D) (c0 : Nat) (m3 : Nat) (c3 : Nat) (n4 : Int) (r0 : List D) (q0 : Nat) (N : Nat) : Prop := AT prog 22 [.sl 4] Q N0 .ord (loopAt prog 22 3) ⟨[.sv a0 4 e0 c0, .any, .any, .sb 0 4 0 m3 c3, .int .i64 n4, .any, .any, .any, .any, .any, .any, .any, .any, .any, .any, .any, .any, .any, .any, .any, .any, .any, .any], [.arr 88 4 r0 q0], N, none⟩
def L_laws_eqParamS_4 (Q : QT [.bool]) (N0 : Nat) (a0 : Option Addr) (e0 : List D) (c0 : Nat) (a1 : Option Addr) (e1 : List D) (c1 : Nat) (n5 : Int) (N : Nat) : Prop := AT prog 24 [.bool] Q N0 .ord (loopAt prog 24 4) ⟨[.sv a0 4 e0 c0, .sv a1 4 e1 c1, .any, .any, .any, .int .i64 n5, .any, .any, .any, .any, .any, .any, .any, .any, .any, .any, .any, .any, .any, .any, .any, .any, .any, .any, .any, .any, .any], [], N, none⟩
def L_laws_markParamS_2 (Q : QT [.int .i64]) (N0 : Nat) (a0 : Option Addr) (e0 : List D) (c0 : Nat) (n1 : Int) (n5 : Int) (N : Nat) : Prop := AT prog 25 [.int .i64] Q N0 .ord (loopAt prog 25 2) ⟨[.sv a0 4 e0 c0, .int .i64 n1, .any, .any, .any, .int .i64 n5, .any, .any, .any, .any, .any, .any, .any, .any, .any, .any, .any, .any, .any, .any, .any, .any, .any, .any, .any, .any, .any, .any, .any, .any, .any, .any, .any, .any, .any, .any, .any, .any, .any, .any, .any, .any, .any, .any, .any, .any], [], N, none⟩
def L_laws_markParamS_2_v1 (T : List Nat) (b0 : Nat) (QM : Int → D → Nat → Prop) (N0 : Nat) (m0 : Nat) (c0 : Nat) (n1 : Int) (n5 : Int) (t0 : Nat) (r0 : List D) (q0 : Nat) (N : Nat) : Prop := AT prog 25 [] noQ N0 (.mk T (some b0) (4, 0) QM) (loopAt prog 25 2) ⟨[.sb 0 4 0 m0 c0, .int .i64 n1, .any, .any, .any, .int .i64 n5, .any, .any, .any, .any, .any, .any, .any, .any, .any, .any, .any, .any, .any, .any, .any, .any, .any, .any, .any, .any, .any, .any, .any, .any, .any, .any, .any, .any, .any, .any, .any, .any, .any, .any, .any, .any, .any, .any, .any, .any], [.arr t0 4 r0 q0], N, some (some b0, T)⟩
theorem w_laws_szParam (N : Nat) (x0 : D) (n1 : Int) (Q : QT [.int .i64]) (h :
((Bel N x0) →
(∃ (s : ByteArray),
(((D.cell x0 0) = (D.lit (Value.string s))) ∧
(Br (decide (((IntKind.i64.wrap (n1 - (((ByteArray.size s) : Nat) : Int) : Int)) < (0 : Int))))
(∀ (N_1 : Nat),
((N ≤ N_1) →
(Q (-1 : Int) N_1)))
(∀ (N_2 : Nat),
((N ≤ N_2) →
(ACalls prog 34 [(Sh.int IntKind.i64)] [PV.dg 2 (D.sub x0 1 2), PV.int .i64 (IntKind.i64.wrap (n1 - (((ByteArray.size s) : Nat) : Int) : Int))] N_2 (fun (n : Int) => (fun (N_3 : Nat) => 
((N_2 ≤ N_3) →
(Br (decide ((n < (0 : Int))))
(∀ (N_4 : Nat),
((N_3 ≤ N_4) →
(Q (-1 : Int) N_4)))
(∀ (N_5 : Nat),
((N_3 ≤ N_5) →
(Q n N_5))))))))))))))) : ACalls prog 52 [.int .i64] [PV.dg 4 x0, PV.int .i64 n1] N Q :=
  entryE (sh := sh) (H := H_laws_szParam) (fuel := 400) (by kernel_rfl) (by kernel_rfl) (by kernel_rfl) h
theorem w_laws_szParamS (N : Nat) (a0 : Option Addr) (e0 : List D) (c0 : Nat) (n1 : Int) (Q : QT [.int .i64]) (h :
((Bel N (D.sl a0 4 e0 c0)) →
(Br (decide (((IntKind.i64.wrap (n1 - (((List.length e0) : Nat) : Int) : Int)) < (0 : Int))))
(∀ (N_1 : Nat),
((N ≤ N_1) →
(Q (-1 : Int) N_1)))
(L_laws_szParamS_5 Q N a0 e0 c0 (IntKind.i64.wrap (n1 - (((List.length e0) : Nat) : Int) : Int)) (0 : Int) N)))) : ACalls prog 20 [.int .i64] [PV.sv a0 4 e0 c0, PV.int .i64 n1] N Q :=
  entryE (sh := sh) (H := H_laws_szParamS) (fuel := 400) (by kernel_rfl) (by kernel_rfl) (by kernel_rfl) h
theorem w_laws_toParam (N : Nat) (x0 : D) (Q : QT [.ag 4]) (h :
((Bel N x0) →
(∃ (s : ByteArray),
(((D.cell x0 0) = (D.lit (Value.string s))) ∧
(∀ (N_1 : Nat),
((N ≤ N_1) →
(ACalls prog 40 [(Sh.ag 2)] [PV.dg 2 (D.sub x0 1 2)] N_1 (fun (x : D) => (fun (N_2 : Nat) => 
((N_1 ≤ N_2) →
((Bel N_2 x) →
(∃ (b : Bool),
(((D.cell x0 3) = (D.lit (Value.bool b))) ∧
(∀ (N_3 : Nat),
((N_2 ≤ N_3) →
(Q (D.ag [(D.lit (Value.string s)), (D.cell x 0), (D.cell x 1), (D.lit (Value.bool b))]) N_3)))))))))))))))) : ACalls prog 57 [.ag 4] [PV.dg 4 x0] N Q :=
  entryE (sh := sh) (H := H_laws_toParam) (fuel := 400) (by kernel_rfl) (by kernel_rfl) (by kernel_rfl) h
theorem w_laws_toParamS (N : Nat) (a0 : Option Addr) (e0 : List D) (c0 : Nat) (Q : QT [.sl 4]) (h :
((Bel N (D.sl a0 4 e0 c0)) →
((((0 : Int) ≤ (((List.length e0) : Nat) : Int)) ∧
(((((List.length e0) : Nat) : Int) ≤ (((List.length e0) : Nat) : Int)) ∧
((((56 : Int) * (((List.length e0) : Nat) : Int) : Int) ≤ (140737488355328 : Int)) ∧
((((List.length e0) : Nat) : Int) ≤ (9223372036854775807 : Int))))) ∧
(L_laws_toParamS_3 Q N a0 e0 c0 (Int.toNat (((List.length e0) : Nat) : Int)) (Int.toNat (((List.length e0) : Nat) : Int)) (0 : Int) (List.replicate (Int.toNat (((List.length e0) : Nat) : Int)) (D.ag [(D.lit (Value.string (bytes []))), (D.lit (Value.int IntKind.i64 (0 : Int))), (D.sl Option.none 2 [] 0), (D.lit (Value.bool false))])) (Int.toNat (((List.length e0) : Nat) : Int)) N)))) : ACalls prog 22 [.sl 4] [PV.sv a0 4 e0 c0] N Q :=
  entryE (sh := sh) (H := H_laws_toParamS) (fuel := 400) (by kernel_rfl) (by kernel_rfl) (by kernel_rfl) h
theorem w_laws_eqParam (N : Nat) (x0 : D) (x1 : D) (Q : QT [.bool]) (h :
((Bel N x0) →
((Bel N x1) →
(∃ (s : ByteArray),
(((D.cell x0 0) = (D.lit (Value.string s))) ∧
(∃ (s_1 : ByteArray),
(((D.cell x1 0) = (D.lit (Value.string s_1))) ∧
(Br (!((ByteArray.toList s) == (ByteArray.toList s_1)))
(∀ (N_1 : Nat),
((N ≤ N_1) →
(Q false N_1)))
(∀ (N_2 : Nat),
((N ≤ N_2) →
(ACalls prog 13 [Sh.bool] [PV.dg 2 (D.sub x0 1 2), PV.dg 2 (D.sub x1 1 2)] N_2 (fun (b : Bool) => (fun (N_3 : Nat) => 
((N_2 ≤ N_3) →
(Br (!b)
(∀ (N_4 : Nat),
((N_3 ≤ N_4) →
(Q false N_4)))
(∃ (b_1 : Bool),
(((D.cell x0 3) = (D.lit (Value.bool b_1))) ∧
(∃ (b_2 : Bool),
(((D.cell x1 3) = (D.lit (Value.bool b_2))) ∧
(Br (!(b_1 == b_2))
(∀ (N_5 : Nat),
((N_3 ≤ N_5) →
(Q false N_5)))
(∀ (N_6 : Nat),
((N_3 ≤ N_6) →
(Q true N_6))))))))))))))))))))))) : ACalls prog 63 [.bool] [PV.dg 4 x0, PV.dg 4 x1] N Q :=
  entryE (sh := sh) (H := H_laws_eqParam) (fuel := 400) (by kernel_rfl) (by kernel_rfl) (by kernel_rfl) h
theorem w_laws_eqParamS (N : Nat) (a0 : Option Addr) (e0 : List D) (c0 : Nat) (a1 : Option Addr) (e1 : List D) (c1 : Nat) (Q : QT [.bool]) (h :
((Bel N (D.sl a0 4 e0 c0)) →
((Bel N (D.sl a1 4 e1 c1)) →
(Br (bne (((List.length e0) : Nat) : Int) (((List.length e1) : Nat) : Int))
(∀ (N_1 : Nat),
((N ≤ N_1) →
(Q false N_1)))
(L_laws_eqParamS_4 Q N a0 e0 c0 a1 e1 c1 (0 : Int) N))))) : ACalls prog 24 [.bool] [PV.sv a0 4 e0 c0, PV.sv a1 4 e1 c1] N Q :=
  entryE (sh := sh) (H := H_laws_eqParamS) (fuel := 400) (by kernel_rfl) (by kernel_rfl) (by kernel_rfl) h
theorem w_laws_markParamS (N : Nat) (a0 : Option Addr) (e0 : List D) (c0 : Nat) (n1 : Int) (Q : QT [.int .i64]) (h :
((Bel N (D.sl a0 4 e0 c0)) →
(L_laws_markParamS_2 Q N a0 e0 c0 n1 (0 : Int) N))) : ACalls prog 25 [.int .i64] [PV.sv a0 4 e0 c0, PV.int .i64 n1] N Q :=
  entryE (sh := sh) (H := H_laws_markParamS) (fuel := 400) (by kernel_rfl) (by kernel_rfl) (by kernel_rfl) h
theorem m_laws_markParamS (N : Nat) (ad : Addr) (e0 : List D) (c0 : Nat) (n1 : Int) (R : D → Int → Nat → Prop) (QM : Int → D → Nat → Prop) (htree : Tree (.sl (some ad) 4 e0 c0)) (hne : e0 ≠ []) (hlen : e0.length ≤ maxLen) (h : ∀ t : Nat,
(L_laws_markParamS_2_v1 (D.foot (D.sl (Option.some ad) 4 e0 c0)) (Addr.block ad) QM N (List.length e0) c0 n1 (0 : Int) t e0 (List.length e0) N))
    (hQ : ∀ k x N, QM k x N → ∃ es, x = .ag es ∧ es.length = e0.length ∧ footL es = footL e0 ∧ R (.sl (some ad) 4 es c0) k N) : MC prog 25 (.sl (some ad) 4 e0 c0) n1 N R :=
  mcsE (sh := sh) (H := H_laws_markParamS) (fuel := 400) (by kernel_rfl) (by kernel_rfl) (fun t => by kernel_rfl) htree hne hlen h hQ
theorem l_laws_szParamS_5 (Q : QT [.int .i64]) (N0 : Nat) (a0 : Option Addr) (e0 : List D) (c0 : Nat) (n1 : Int) (n5 : Int) (N : Nat) (h :
(Br (decide ((n5 < (((List.length e0) : Nat) : Int))))
((((0 : Int) ≤ n5) ∧
(n5 < (((List.length e0) : Nat) : Int))) ∧
(∀ (N_1 : Nat),
((N ≤ N_1) →
(ACalls prog 52 [(Sh.int IntKind.i64)] [PV.dg 4 (List.getD e0 (Int.toNat n5) Inhabited.default), PV.int .i64 n1] N_1 (fun (n : Int) => (fun (N_2 : Nat) => 
((N_1 ≤ N_2) →
(Br (decide ((n < (0 : Int))))
(∀ (N_3 : Nat),
((N_2 ≤ N_3) →
(Q (-1 : Int) N_3)))
(L_laws_szParamS_5 Q N0 a0 e0 c0 n (IntKind.i64.wrap (n5 + (1 : Int) : Int)) N_2)))))))))
(∀ (N_4 : Nat),
((N ≤ N_4) →
(Q n1 N_4))))) : L_laws_szParamS_5 Q N0 a0 e0 c0 n1 n5 N :=
  headE (sh := sh) (H := H_laws_szParamS) (fuel := 400) (by kernel_rfl) (by kernel_rfl) h
theorem l_laws_toParamS_3 (Q : QT [.sl 4]) (N0 : Nat) (a0 : Option Addr) (e0 : List D) (c0 : Nat) (m3 : Nat) (c3 : Nat) (n4 : Int) (r0 : List D) (q0 : Nat) (N : Nat) (h :
(Br (decide ((n4 < (((List.length e0) : Nat) : Int))))
((((0 : Int) ≤ n4) ∧
(n4 < (((List.length e0) : Nat) : Int))) ∧
(∀ (N_1 : Nat),
((N ≤ N_1) →
(ACalls prog 57 [(Sh.ag 4)] [PV.dg 4 (List.getD e0 (Int.toNat n4) Inhabited.default)] N_1 (fun (x : D) => (fun (N_2 : Nat) => 
((N_1 ≤ N_2) →
((Bel N_2 x) →
((((0 : Int) ≤ n4) ∧
((n4 < ((m3 : Nat) : Int)) ∧
((0 + (Int.toNat n4) : Nat) < (List.length r0)))) ∧
(((0 + (Int.toNat n4) : Nat) < (List.length r0)) ∧
(L_laws_toParamS_3 Q N0 a0 e0 c0 m3 c3 (IntKind.i64.wrap (n4 + (1 : Int) : Int)) (List.set r0 (0 + (Int.toNat n4) : Nat) x) q0 N_2)))))))))))
(((m3 = (List.length r0)) ∧
(c3 = q0)) ∧
(((m3 = (List.length r0)) ∧
(c3 = q0)) ∧
(((m3 = (List.length r0)) ∧
(c3 = q0)) ∧
(∀ (a : Option Addr),
(∀ (N_3 : Nat),
((N ≤ N_3) →
((Fresh N0 N_3 a [(D.ag r0)]) →
(∀ (N_4 : Nat),
((N_3 ≤ N_4) →
(Q a r0 q0 N_4)))))))))))) : L_laws_toParamS_3 Q N0 a0 e0 c0 m3 c3 n4 r0 q0 N :=
  headE (sh := sh) (H := H_laws_toParamS) (fuel := 400) (by kernel_rfl) (by kernel_rfl) h
theorem l_laws_eqParamS_4 (Q : QT [.bool]) (N0 : Nat) (a0 : Option Addr) (e0 : List D) (c0 : Nat) (a1 : Option Addr) (e1 : List D) (c1 : Nat) (n5 : Int) (N : Nat) (h :
(Br (decide ((n5 < (((List.length e0) : Nat) : Int))))
((((0 : Int) ≤ n5) ∧
(n5 < (((List.length e0) : Nat) : Int))) ∧
((((0 : Int) ≤ n5) ∧
(n5 < (((List.length e1) : Nat) : Int))) ∧
(∀ (N_1 : Nat),
((N ≤ N_1) →
(ACalls prog 63 [Sh.bool] [PV.dg 4 (List.getD e0 (Int.toNat n5) Inhabited.default), PV.dg 4 (List.getD e1 (Int.toNat n5) Inhabited.default)] N_1 (fun (b : Bool) => (fun (N_2 : Nat) => 
((N_1 ≤ N_2) →
(Br (!b)
(∀ (N_3 : Nat),
((N_2 ≤ N_3) →
(Q false N_3)))
(L_laws_eqParamS_4 Q N0 a0 e0 c0 a1 e1 c1 (IntKind.i64.wrap (n5 + (1 : Int) : Int)) N_2))))))))))
(∀ (N_4 : Nat),
((N ≤ N_4) →
(Q true N_4))))) : L_laws_eqParamS_4 Q N0 a0 e0 c0 a1 e1 c1 n5 N :=
  headE (sh := sh) (H := H_laws_eqParamS) (fuel := 400) (by kernel_rfl) (by kernel_rfl) h
theorem l_laws_markParamS_2 (Q : QT [.int .i64]) (N0 : Nat) (a0 : Option Addr) (e0 : List D) (c0 : Nat) (n1 : Int) (n5 : Int) (N : Nat) (h :
(Br (decide ((n5 < (((List.length e0) : Nat) : Int))))
(∀ (N_1 : Nat),
((N ≤ N_1) →
(ACalls prog 48 [Sh.str] [PV.int .i64 n1] N_1 (fun (s : ByteArray) => (fun (N_2 : Nat) => 
((N_1 ≤ N_2) →
((((0 : Int) ≤ n5) ∧
(n5 < (((List.length e0) : Nat) : Int))) ∧
  False)))))))
(∀ (N_3 : Nat),
((N ≤ N_3) →
(Q n1 N_3))))) : L_laws_markParamS_2 Q N0 a0 e0 c0 n1 n5 N :=
  headE (sh := sh) (H := H_laws_markParamS) (fuel := 400) (by kernel_rfl) (by kernel_rfl) h
theorem l_laws_markParamS_2_v1 (T : List Nat) (b0 : Nat) (QM : Int → D → Nat → Prop) (N0 : Nat) (m0 : Nat) (c0 : Nat) (n1 : Int) (n5 : Int) (t0 : Nat) (r0 : List D) (q0 : Nat) (N : Nat) (h :
(Br (decide ((n5 < ((m0 : Nat) : Int)))) (∀ (N_1 : Nat), ((N ≤ N_1) → (ACalls prog 48 [Sh.str]
  [PV.int .i64 n1] N_1 (fun (s : ByteArray) => 
(let r_1 : List D := (List.set r0 (0 + (Int.toNat n5) : Nat) (D.ag (putD 0 [(D.lit (Value.string
  s))] (D.cells (List.getD r0 (0 + (Int.toNat n5) : Nat) Inhabited.default))))); 
(let r_2 : List D := (List.set r_1 (0 + (Int.toNat n5) : Nat) (D.ag (putD 1 [(D.lit (Value.int
  IntKind.i64 (IntKind.i64.wrap (n1 + (1 : Int) : Int))))] (D.cells (List.getD r_1 (0 + (Int.toNat
  n5) : Nat) Inhabited.default))))); (fun (N_2 : Nat) => ((N_1 ≤ N_2) → ((((0 : Int) ≤ n5) ∧ ((n5
  < ((m0 : Nat) : Int)) ∧ ((0 + (Int.toNat n5) : Nat) < (List.length r0)))) ∧ (((0 + (Int.toNat
  n5) : Nat) < (List.length r0)) ∧ ((((0 : Int) ≤ n5) ∧ ((n5 < ((m0 : Nat) : Int)) ∧ ((0 + (Int.toNat
  n5) : Nat) < (List.length r_1)))) ∧ (((0 + (Int.toNat n5) : Nat) < (List.length r_1)) ∧ ((((0
  : Int) ≤ n5) ∧ ((n5 < ((m0 : Nat) : Int)) ∧ ((0 + (Int.toNat n5) : Nat) < (List.length r_2))))
  ∧ (((0 + (Int.toNat n5) : Nat) < (List.length r_2)) ∧ (∃ (a : Option Addr), (∃ (es : List D),
  (∃ (c : Nat), (((D.cell (List.getD r_2 (0 + (Int.toNat n5) : Nat) Inhabited.default) 2) = (D.sl
  a 2 es c)) ∧ ((Tree (D.sl a 2 es c)) ∧ ((In T (D.sl a 2 es c)) ∧ (((0 + (Int.toNat n5) : Nat)
  < (List.length r_2)) ∧ ((2 < (List.length (D.cells (List.getD r_2 (0 + (Int.toNat n5) : Nat)
  Inhabited.default)))) ∧ (((D.cell (List.getD r_2 (0 + (Int.toNat n5) : Nat) Inhabited.default)
  2) = (D.sl a 2 es c)) ∧ ((Once r_2) ∧ ((Dis (D.sl a 2 es c) []) ∧ (∀ (N_3 : Nat), ((N_2 ≤ N_3)
  → (MC prog 49 (D.sl a 2 es c) (IntKind.i64.wrap ((IntKind.i64.wrap (n1 + (1 : Int) : Int)) +
  (1 : Int) : Int)) N_3 (fun (x : D) => 
(let r_3 : List D := (List.set r_2 (0 + (Int.toNat n5) : Nat) (D.ag (putD 2 [x] (D.cells (List.getD
  r_2 (0 + (Int.toNat n5) : Nat) Inhabited.default))))); (fun (n : Int) => (fun (N_4 : Nat) =>
  ((N_3 ≤ N_4) → (((3 : Int) ≠ (0 : Int)) ∧ ((((0 : Int) ≤ n5) ∧ ((n5 < ((m0 : Nat) : Int)) ∧
  ((0 + (Int.toNat n5) : Nat) < (List.length r_3)))) ∧ (((0 + (Int.toNat n5) : Nat) < (List.length
  r_3)) ∧ (L_laws_markParamS_2_v1 T b0 QM N0 m0 c0 (IntKind.i64.wrap (n + (1 : Int) : Int)) (IntKind.i64.wrap
  (n5 + (1 : Int) : Int)) t0 (List.set r_3 (0 + (Int.toNat n5) : Nat) (D.ag (putD 3 [(D.lit (Value.bool
  ((Int.tmod n (3 : Int)) == (0 : Int))))] (D.cells (List.getD r_3 (0 + (Int.toNat n5) : Nat)
  Inhabited.default))))) q0 N_4))))))))))))))))))))))))))))))))))))) ((b0 = b0) ∧ (∀ (N_5 : Nat),
  ((N ≤ N_5) → (QM n1 (D.ag r0) N_5)))))) : L_laws_markParamS_2_v1 T b0 QM N0 m0 c0 n1 n5 t0 r0 q0 N :=
  headE (sh := sh) (H := H_laws_markParamS) (fuel := 400) (by kernel_rfl) (by kernel_rfl) h

end Go.Proofs.YtobhcgffgpcjgaaGreat

/- Printed by gen.py: what the functions come to. -/
set_option linter.unusedVariables false
set_option maxRecDepth 100000
namespace Go.Proofs.YtobhcgffgpcjgaaGreat
open Go Go.Proofs Go.Proofs.Tryz
def H_impl_AreParams : Hint := { cuts := [{ id := 5, keep := [3, 11, 12, 13] }], joins := [], ords := [(7, [{ i := 0, hard := true }, { i := 1, hard := true }, { i := 2, hard := true }, { i := 3, hard := true }, { i := 4, hard := true }, { i := 5, hard := true }, { i := 6, hard := true }, { i := 7, hard := true, cl := [24] }, { i := 8, hard := true }, { i := 9, hard := true }, { i := 10, hard := true }, { i := 11, hard := true }, { i := 12, hard := true }, { i := 13, hard := true }, { i := 14, hard := true }, { i := 15, hard := true }, { i := 16, hard := true }, { i := 17, hard := true }])] }
def H_impl_BodyType : Hint := { cuts := [{ id := 6, keep := [3, 4, 7, 26, 27, 28], nils := [(7, 70, 4)] }], joins := [], ords := [(1, [{ i := 0, hard := true }, { i := 1, hard := true, cl := [10] }, { i := 2, hard := true }]),
  (2, [{ i := 0, hard := true }, { i := 1, hard := true }, { i := 2, hard := true }, { i := 3, hard := true }, { i := 4, hard := true }, { i := 5, hard := true, cl := [16] }, { i := 6, hard := true }, { i := 7, hard := true }, { i := 8, hard := true }, { i := 9, hard := true }, { i := 10, hard := true }, { i := 11, hard := true }]),
  (10, [{ i := 0, hard := true }, { i := 1, hard := true }, { i := 2, hard := true, cl := [42] }, { i := 3, hard := true }, { i := 4, hard := true }, { i := 5, hard := true }, { i := 6, hard := true }])] }
def H_impl_DepthOf : Hint := { cuts := [{ id := 3, keep := [3, 7, 8, 9] }], joins := [], ords := [(5, [{ i := 0, hard := true }, { i := 1, hard := true }, { i := 2, hard := true, cl := [14] }, { i := 3, hard := true }, { i := 4, hard := true }])] }
def H_impl_IndexOf : Hint := { cuts := [], joins := [], ords := [] }
def H_impl_IsValidTerm : Hint := { cuts := [], joins := [], ords := [(1, [{ i := 0, hard := true }, { i := 1, hard := true, cl := [3] }, { i := 2, hard := true }, { i := 3, hard := true }, { i := 4, hard := true, cl := [6] }, { i := 5, hard := true }, { i := 6, hard := true }, { i := 7, hard := true }, { i := 8, hard := true }, { i := 9, hard := true, cl := [11] }, { i := 10, hard := true }, { i := 11, hard := true }, { i := 12, hard := true }])] }
def H_impl_SizeOf : Hint := { cuts := [{ id := 3, keep := [3, 7, 8, 9] }], joins := [], ords := [(5, [{ i := 0, hard := true }, { i := 1, hard := true }, { i := 2, hard := true, cl := [14] }, { i := 3, hard := true }, { i := 4, hard := true }])] }
def H_impl_paramNames : Hint := { cuts := [{ id := 3, keep := [3, 7, 8, 9], nils := [(3, 9, 0)] }], joins := [], ords := [] }
def H_spec_AreParams : Hint := { cuts := [{ id := 3, keep := [0, 3, 4], nils := [(3, 9, 0)] }], joins := [], ords := [(5, [{ i := 0, hard := true }, { i := 1, hard := true }, { i := 2, hard := true }, { i := 3, hard := true }, { i := 4, hard := true }, { i := 5, hard := true }, { i := 6, hard := true }, { i := 7, hard := true }, { i := 8, hard := true }, { i := 9, hard := true }, { i := 10, hard := true }, { i := 11, hard := true }, { i := 12, hard := true }, { i := 13, hard := true, cl := [24] }, { i := 14, hard := true }, { i := 15, hard := true }, { i := 16, hard := true }, { i := 17, hard := true }, { i := 18, hard := true }, { i := 19, hard := true }, { i := 20, hard := true }, { i := 21, hard := true }, { i := 22, hard := true }, { i := 23, hard := true }, { i := 24, hard := true }, { i := 25, hard := true }])] }
def H_spec_BodyType : Hint := { cuts := [], joins := [], ords := [(1, [{ i := 0, hard := true }, { i := 1, hard := true }, { i := 2, hard := true }, { i := 3, hard := true }, { i := 4, hard := true }, { i := 5, hard := true, cl := [12] }, { i := 6, hard := true }, { i := 7, hard := true }, { i := 8, hard := true }, { i := 9, hard := true }, { i := 10, hard := true, cl := [17] }, { i := 11, hard := true }, { i := 12, hard := true }]),
  (3, [{ i := 0 }, { i := 2 }, { i := 7 }, { i := 1, hard := true }, { i := 3, hard := true, cl := [25] }, { i := 4 }, { i := 5 }, { i := 6 }, { i := 8, hard := true }, { i := 9 }])] }
def H_spec_DepthOf : Hint := { cuts := [{ id := 3, keep := [1, 3, 4] }], joins := [], ords := [(5, [{ i := 0, hard := true }, { i := 1, hard := true }, { i := 2, hard := true }, { i := 3, hard := true }, { i := 4, hard := true }, { i := 5, hard := true }, { i := 6, hard := true, cl := [17] }, { i := 7, hard := true }, { i := 8, hard := true }])] }
def H_spec_IndexOf : Hint := { cuts := [{ id := 2, keep := [0, 1, 5] }], joins := [], ords := [] }
def H_spec_IsValidTerm : Hint := { cuts := [], joins := [], ords := [(1, [{ i := 0, hard := true }, { i := 1, hard := true, cl := [3] }, { i := 2, hard := true }, { i := 3, hard := true }, { i := 4, hard := true }, { i := 5, hard := true, cl := [7] }, { i := 6, hard := true }, { i := 7, hard := true }, { i := 8, hard := true }, { i := 9, hard := true }, { i := 10, hard := true, cl := [12] }, { i := 11, hard := true }, { i := 12, hard := true }])] }
def H_spec_l15Ctx : Hint := { cuts := [{ id := 3, keep := [0, 3, 4], nils := [(3, 70, 4)] }], joins := [], ords := [(5, [{ i := 0 }, { i := 1 }, { i := 2 }, { i := 3 }, { i := 4 }, { i := 5 }, { i := 6 }, { i := 7 }, { i := 8 }, { i := 9 }, { i := 10 }, { i := 11 }, { i := 12 }, { i := 13, hard := true }, { i := 14, hard := true }])] }
def H_spec_l15Is : Hint := { cuts := [{ id := 2, keep := [1, 3] }], joins := [], ords := [(4, [{ i := 0, hard := true }, { i := 1, hard := true }, { i := 2, hard := true }, { i := 3, hard := true }, { i := 4, hard := true }, { i := 5, hard := true, cl := [15] }, { i := 6, hard := true }])] }
def H_spec_l5Left : Hint := { cuts := [{ id := 3, keep := [1, 2, 5] }], joins := [], ords := [(5, [{ i := 0, hard := true }, { i := 1, hard := true }, { i := 2, hard := true }, { i := 3, hard := true }, { i := 4, hard := true }, { i := 5, hard := true }, { i := 6, hard := true, cl := [23] }, { i := 7, hard := true }])] }
def H_laws_FnExactBodyType : Hint := { cuts := [], joins := [], ords := [(5, [{ i := 0, hard := true }, { i := 1, hard := true }, { i := 2, hard := true, cl := [22] }, { i := 3, hard := true }]),
  (8, [{ i := 0 }, { i := 2 }, { i := 8 }, { i := 1, hard := true }, { i := 3, hard := true, cl := [30] }, { i := 4, hard := true, cl := [31] }, { i := 5 }, { i := 6 }, { i := 7 }, { i := 9, hard := true }, { i := 10 }]),
  (10, [{ i := 0, hard := true }, { i := 1, hard := true, cl := [37] }, { i := 2, hard := true }, { i := 3, hard := true }]),
  (11, [{ i := 0, hard := true }, { i := 1, hard := true }, { i := 2, hard := true, cl := [41] }, { i := 3, hard := true }, { i := 4, hard := true }, { i := 5, hard := true }, { i := 6, hard := true }, { i := 7, hard := true }, { i := 8, hard := true }]),
  (12, [{ i := 0, hard := true }, { i := 1, hard := true }, { i := 2, hard := true, cl := [45, 46] }, { i := 3, hard := true }, { i := 4, hard := true }, { i := 5, hard := true }, { i := 6, hard := true }, { i := 7, hard := true }, { i := 8, hard := true }]),
  (16, [{ i := 0 }, { i := 1 }, { i := 2, hard := true, cl := [60] }, { i := 3, hard := true, cl := [59, 61] }, { i := 4 }]),
  (19, [{ i := 0, hard := true }, { i := 1, hard := true }, { i := 2, hard := true, mh := some { keep := [0, 3, 6, 7, 9, 10, 11, 12] } }, { i := 3, hard := true }]),
  (20, [{ i := 0, hard := true }, { i := 1, hard := true }, { i := 2, hard := true, mh := some { place := some 9, keep := [0, 3, 6, 7, 10, 11, 12] } }, { i := 3, hard := true }]),
  (21, [{ i := 0, hard := true }, { i := 1, hard := true }, { i := 2, hard := true }, { i := 3, hard := true }, { i := 4, hard := true }, { i := 5, hard := true, cl := [73, 74] }, { i := 6, hard := true }, { i := 7, hard := true }, { i := 8, hard := true }, { i := 9, hard := true }, { i := 10, hard := true }, { i := 11, hard := true }, { i := 12, hard := true }]),
  (24, [{ i := 0, hard := true }, { i := 1, hard := true }, { i := 2, hard := true, mh := some { place := some 10, keep := [0, 3, 6, 7, 10, 13] } }, { i := 3, hard := true }]),
  (26, [{ i := 0, hard := true }, { i := 1, hard := true }, { i := 2, hard := true, cl := [86] }, { i := 3, hard := true }]),
  (31, [{ i := 0 }, { i := 2 }, { i := 8 }, { i := 1, hard := true }, { i := 3, hard := true, cl := [97] }, { i := 4, hard := true, cl := [98] }, { i := 5 }, { i := 6 }, { i := 7 }, { i := 9, hard := true }, { i := 10 }]),
  (32, [{ i := 0, hard := true }, { i := 1, hard := true }, { i := 2, hard := true, cl := [102, 103] }, { i := 3, hard := true }, { i := 4, hard := true }, { i := 5, hard := true }, { i := 6, hard := true }, { i := 7, hard := true }, { i := 8, hard := true }]),
  (35, [{ i := 0, hard := true }, { i := 1, hard := true }, { i := 2, hard := true, cl := [111] }, { i := 3, hard := true }])] }
def H_impl_allTermsb : Hint := { cuts := [], joins := [], ords := [(1, [{ i := 0, hard := true }, { i := 1, hard := true }, { i := 2, hard := true, cl := [6] }, { i := 3, hard := true }, { i := 4, hard := true }, { i := 5, hard := true }, { i := 6, hard := true }, { i := 7, hard := true }, { i := 8, hard := true }, { i := 9, hard := true }, { i := 10, hard := true }])] }
def H_slices_ContainsFunc_Termb : Hint := { cuts := [], joins := [], ords := [] }
def H_slices_IndexFunc_Termb : Hint := { cuts := [{ id := 2, keep := [0, 1, 7, 8] }], joins := [], ords := [(4, [{ i := 0, hard := true }, { i := 1, hard := true }, { i := 2, hard := true }, { i := 3, hard := true }, { i := 4, hard := true }, { i := 5, hard := true, cl := [15] }])] }
def H_impl_allTerms_1b : Hint := { cuts := [], joins := [], ords := [(1, [{ i := 0, hard := true }, { i := 1, hard := true }, { i := 2, hard := true, cl := [4] }, { i := 3, hard := true }, { i := 4, hard := true }])] }
def L_impl_AreParams_5 (Q : QT [.bool]) (N0 : Nat) (a3 : Option Addr) (e3 : List D) (c3 : Nat) (a11 : Option Addr) (e11 : List D) (c11 : Nat) (n12 : Int) (n13 : Int) (N : Nat) : Prop := AT prog 61 [.bool] Q N0 .ord (loopAt prog 61 5) ⟨[.any, .any, .any, .sv a3 0 e3 c3, .any, .any, .any, .any, .any, .any, .any, .sv a11 4 e11 c11, .int .i64 n12, .int .i64 n13, .any, .any, .any, .any, .any, .any, .any, .any, .any, .any, .any, .any, .any, .any, .any, .any, .any, .any, .any, .any, .any, .any, .any], [], N, none⟩
def L_impl_BodyType_6 (Q : QT [.ag 2, .bool]) (N0 : Nat) (m7 : Nat) (c7 : Nat) (a26 : Option Addr) (e26 : List D) (c26 : Nat) (n27 : Int) (n28 : Int) (y0 : D) (n1_0 : Int) (a1_1 : Option Addr) (e1_1 : List D) (c1_1 : Nat) (r2 : List D) (q2 : Nat) (N : Nat) : Prop := AT prog 23 [.ag 2, .bool] Q N0 .ord (loopAt prog 23 6) ⟨[.any, .any, .any, .pb 0 0 0 0, .pb 1 0 0 0, .any, .any, .sb 2 4 0 m7 c7, .any, .any, .any, .any, .any, .any, .any, .any, .any, .any, .any, .any, .any, .any, .any, .any, .any, .any, .sv a26 4 e26 c26, .int .i64 n27, .int .i64 n28, .any, .any, .any, .any, .any, .any, .any, .any, .any, .any, .any, .any, .any, .any, .any, .any, .any], [.vd y0 9, .var [.int .i64 n1_0, .sv a1_1 2 e1_1 c1_1], .arr 70 4 r2 q2], N, none⟩
def L_impl_DepthOf_3 (Q : QT [.int .i64]) (N0 : Nat) (n3 : Int) (a7 : Option Addr) (e7 : List D) (c7 : Nat) (n8 : Int) (n9 : Int) (N : Nat) : Prop := AT prog 94 [.int .i64] Q N0 .ord (loopAt prog 94 3) ⟨[.any, .any, .any, .int .i64 n3, .any, .any, .any, .sv a7 9 e7 c7, .int .i64 n8, .int .i64 n9, .any, .any, .any, .any, .any, .any, .any, .any, .any, .any], [], N, none⟩
def L_impl_SizeOf_3 (Q : QT [.int .i64]) (N0 : Nat) (n3 : Int) (a7 : Option Addr) (e7 : List D) (c7 : Nat) (n8 : Int) (n9 : Int) (N : Nat) : Prop := AT prog 93 [.int .i64] Q N0 .ord (loopAt prog 93 3) ⟨[.any, .any, .any, .int .i64 n3, .any, .any, .any, .sv a7 9 e7 c7, .int .i64 n8, .int .i64 n9, .any, .any, .any, .any, .any, .any, .any, .any, .any], [], N, none⟩
def L_impl_paramNames_3 (Q : QT [.sl 0]) (N0 : Nat) (m3 : Nat) (c3 : Nat) (a7 : Option Addr) (e7 : List D) (c7 : Nat) (n8 : Int) (n9 : Int) (r0 : List D) (q0 : Nat) (N : Nat) : Prop := AT prog 90 [.sl 0] Q N0 .ord (loopAt prog 90 3) ⟨[.any, .any, .any, .sb 0 0 0 m3 c3, .any, .any, .any, .sv a7 4 e7 c7, .int .i64 n8, .int .i64 n9, .any, .any, .any, .any, .any, .any, .any, .any, .any, .any], [.arr 9 0 r0 q0], N, none⟩
def L_spec_AreParams_3 (Q : QT [.bool]) (N0 : Nat) (a0 : Option Addr) (e0 : List D) (c0 : Nat) (m3 : Nat) (c3 : Nat) (n4 : Int) (r0 : List D) (q0 : Nat) (N : Nat) : Prop := AT prog 53 [.bool] Q N0 .ord (loopAt prog 53 3) ⟨[.sv a0 4 e0 c0, .any, .any, .sb 0 0 0 m3 c3, .int .i64 n4, .any, .any, .any, .any, .any, .any, .any, .any, .any, .any, .any, .any, .any, .any, .any, .any, .any, .any, .any, .any, .any, .any, .any, .any, .any, .any, .any, .any, .any, .any, .any, .any, .any, .any, .any, .any, .any, .any, .any, .any, .any, .any, .any, .any], [.arr 9 0 r0 q0], N, none⟩
def L_spec_DepthOf_3 (Q : QT [.int .i64]) (N0 : Nat) (n3 : Int) (n4 : Int) (y0 : D) (N : Nat) : Prop := AT prog 87 [.int .i64] Q N0 .ord (loopAt prog 87 3) ⟨[.any, .pb 0 0 0 0, .any, .int .i64 n3, .int .i64 n4, .any, .any, .any, .any, .any, .any, .any, .any, .any, .any, .any, .any, .any, .any, .any, .any, .any], [.vd y0 9], N, none⟩
def L_spec_IndexOf_2 (Q : QT [.int .i64]) (N0 : Nat) (a0 : Option Addr) (e0 : List D) (c0 : Nat) (s1 : ByteArray) (n5 : Int) (N : Nat) : Prop := AT prog 85 [.int .i64] Q N0 .ord (loopAt prog 85 2) ⟨[.sv a0 0 e0 c0, .str s1, .any, .any, .any, .int .i64 n5, .any, .any, .any, .any, .any, .any, .any, .any, .any, .any, .any, .any, .any], [], N, none⟩
def L_spec_l15Ctx_3 (Q : QT [.sl 4]) (N0 : Nat) (a0 : Option Addr) (e0 : List D) (c0 : Nat) (m3 : Nat) (c3 : Nat) (n4 : Int) (r0 : List D) (q0 : Nat) (N : Nat) : Prop := AT prog 56 [.sl 4] Q N0 .ord (loopAt prog 56 3) ⟨[.sv a0 4 e0 c0, .any, .any, .sb 0 4 0 m3 c3, .int .i64 n4, .any, .any, .any, .any, .any, .any, .any, .any, .any, .any, .any, .any, .any, .any, .any, .any, .any, .any, .any, .any, .any, .any], [.arr 70 4 r0 q0], N, none⟩
def L_spec_l15Is_2 (Q : QT [.bool]) (N0 : Nat) (n3 : Int) (y0 : D) (N : Nat) : Prop := AT prog 55 [.bool] Q N0 .ord (loopAt prog 55 2) ⟨[.any, .pb 0 0 0 0, .any, .int .i64 n3, .any, .any, .any, .any, .any, .any, .any, .any, .any, .any, .any, .any, .any, .any, .any, .any, .any, .any, .any, .any, .any, .any], [.vd y0 9], N, none⟩
def L_spec_l5Left_3 (Q : QT [.int .i64]) (N0 : Nat) (n1 : Int) (n5 : Int) (y0 : D) (N : Nat) : Prop := AT prog 86 [.int .i64] Q N0 .ord (loopAt prog 86 3) ⟨[.any, .int .i64 n1, .pb 0 0 0 0, .any, .any, .int .i64 n5, .any, .any, .any, .any, .any, .any, .any, .any, .any, .any, .any, .any, .any, .any, .any, .any, .any, .any, .any, .any, .any], [.vd y0 9], N, none⟩
def L_slices_IndexFunc_Term_2b (Q : QT [.int .i64]) (N0 : Nat) (a0 : Option Addr) (e0 : List D) (c0 : Nat) (a1_0 : Addr) (n7 : Int) (n8 : Int) (N : Nat) : Prop := AT prog 131 [.int .i64] Q N0 .ord (loopAt prog 131 2) ⟨[.sv a0 9 e0 c0, .fn 89 [.pd a1_0 0 (.fn 59 [])], .any, .any, .any, .any, .any, .int .i64 n7, .int .i64 n8, .any, .any, .any, .any, .any, .any, .any, .any, .any, .any], [], N, none⟩
theorem w_impl_AreParams (N : Nat) (a0 : Option Addr) (e0 : List D) (c0 : Nat) (Q : QT [.bool]) (h :
((Bel N (D.sl a0 4 e0 c0)) →
(Br (decide (((((List.length e0) : Nat) : Int) > (5 : Int))))
(∀ (N_1 : Nat),
((N ≤ N_1) →
(Q false N_1)))
(∀ (N_2 : Nat),
((N ≤ N_2) →
(ACalls prog 90 [(Sh.sl 0)] [PV.sv a0 4 e0 c0] N_2 (fun (a : Option Addr) => (fun (es : List D) => (fun (c : Nat) => (fun (N_3 : Nat) => 
((N_2 ≤ N_3) →
((Bel N_3 (D.sl a 0 es c)) →
(L_impl_AreParams_5 Q N a es c a0 e0 c0 (((List.length e0) : Nat) : Int) (0 : Int) N_3))))))))))))) : ACalls prog 61 [.bool] [PV.sv a0 4 e0 c0] N Q :=
  entryE (sh := sh) (H := H_impl_AreParams) (fuel := 400) (by kernel_rfl) (by kernel_rfl) (by kernel_rfl) h
theorem w_impl_BodyType (N : Nat) (a0 : Option Addr) (e0 : List D) (c0 : Nat) (x1 : D) (Q : QT [.ag 2, .bool]) (h :
((Bel N (D.sl a0 4 e0 c0)) →
((Bel N x1) →
(∀ (N_1 : Nat),
((N ≤ N_1) →
(ACalls prog 58 [Sh.bool] [PV.dg 9 x1, PV.fn 59 []] N_1 (fun (b : Bool) => (fun (N_2 : Nat) => 
((N_1 ≤ N_2) →
(∀ (N_3 : Nat),
((N_2 ≤ N_3) →
(ACalls prog 61 [Sh.bool] [PV.sv a0 4 e0 c0] N_3 (fun (b_1 : Bool) => (fun (N_4 : Nat) => 
((N_3 ≤ N_4) →
(Br (!b_1)
(∀ (N_5 : Nat),
((N_4 ≤ N_5) →
(Q (D.ag [(D.lit (Value.int IntKind.i64 (0 : Int))), (D.sl Option.none 2 [] 0)]) false N_5)))
(∀ (N_6 : Nat),
((N_4 ≤ N_6) →
(ACalls prog 62 [Sh.bool] [PV.dg 9 x1] N_6 (fun (b_2 : Bool) => (fun (N_7 : Nat) => 
((N_6 ≤ N_7) →
(Br (!b_2)
(∀ (N_8 : Nat),
((N_7 ≤ N_8) →
(Q (D.ag [(D.lit (Value.int IntKind.i64 (0 : Int))), (D.sl Option.none 2 [] 0)]) false N_8)))
(Br (!b)
(∀ (N_9 : Nat),
((N_7 ≤ N_9) →
(Q (D.ag [(D.lit (Value.int IntKind.i64 (0 : Int))), (D.sl Option.none 2 [] 0)]) false N_9)))
(L_impl_BodyType_6 Q N 0 0 a0 e0 c0 (((List.length e0) : Nat) : Int) (0 : Int) x1 (0 : Int) Option.none [] 0 [] 0 N_7))))))))))))))))))))))))) : ACalls prog 23 [.ag 2, .bool] [PV.sv a0 4 e0 c0, PV.dg 9 x1] N Q :=
  entryE (sh := sh) (H := H_impl_BodyType) (fuel := 400) (by kernel_rfl) (by kernel_rfl) (by kernel_rfl) h
theorem w_impl_DepthOf (N : Nat) (x0 : D) (Q : QT [.int .i64]) (h :
((Bel N x0) →
(∃ (a : Option Addr),
(∃ (es : List D),
(∃ (c : Nat),
(((D.cell x0 8) = (D.sl a 9 es c)) ∧
(L_impl_DepthOf_3 Q N (0 : Int) a es c (((List.length es) : Nat) : Int) (0 : Int) N))))))) : ACalls prog 94 [.int .i64] [PV.dg 9 x0] N Q :=
  entryE (sh := sh) (H := H_impl_DepthOf) (fuel := 400) (by kernel_rfl) (by kernel_rfl) (by kernel_rfl) h
theorem w_impl_IndexOf (N : Nat) (a0 : Option Addr) (e0 : List D) (c0 : Nat) (s1 : ByteArray) (Q : QT [.int .i64]) (h :
((Bel N (D.sl a0 0 e0 c0)) →
(∀ (N_1 : Nat),
((N ≤ N_1) →
(ACalls prog 132 [(Sh.int IntKind.i64)] [PV.sv a0 0 e0 c0, PV.str s1] N_1 (fun (n : Int) => (fun (N_2 : Nat) => 
((N_1 ≤ N_2) →
(∀ (N_3 : Nat),
((N_2 ≤ N_3) →
(Q n N_3))))))))))) : ACalls prog 92 [.int .i64] [PV.sv a0 0 e0 c0, PV.str s1] N Q :=
  entryE (sh := sh) (H := H_impl_IndexOf) (fuel := 400) (by kernel_rfl) (by kernel_rfl) (by kernel_rfl) h
theorem w_impl_IsValidTerm (N : Nat) (x0 : D) (Q : QT [.bool]) (h :
((Bel N x0) →
(∀ (N_1 : Nat),
((N ≤ N_1) →
(ACalls prog 80 [Sh.bool] [PV.dg 9 x0] N_1 (fun (b : Bool) => (fun (N_2 : Nat) => 
((N_1 ≤ N_2) →
(Br b
(∀ (N_3 : Nat),
((N_2 ≤ N_3) →
(ACalls prog 93 [(Sh.int IntKind.i64)] [PV.dg 9 x0] N_3 (fun (n : Int) => (fun (N_4 : Nat) => 
((N_3 ≤ N_4) →
(Br (decide ((n ≤ (80 : Int))))
(∀ (N_5 : Nat),
((N_4 ≤ N_5) →
(ACalls prog 94 [(Sh.int IntKind.i64)] [PV.dg 9 x0] N_5 (fun (n_1 : Int) => (fun (N_6 : Nat) => 
((N_5 ≤ N_6) →
(∀ (N_7 : Nat),
((N_6 ≤ N_7) →
(Q (decide ((n_1 ≤ (20 : Int)))) N_7)))))))))
(∀ (N_8 : Nat),
((N_4 ≤ N_8) →
(Q false N_8))))))))))
(∀ (N_9 : Nat),
((N_2 ≤ N_9) →
(Q false N_9)))))))))))) : ACalls prog 62 [.bool] [PV.dg 9 x0] N Q :=
  entryE (sh := sh) (H := H_impl_IsValidTerm) (fuel := 400) (by kernel_rfl) (by kernel_rfl) (by kernel_rfl) h
theorem w_impl_SizeOf (N : Nat) (x0 : D) (Q : QT [.int .i64]) (h :
((Bel N x0) →
(∃ (a : Option Addr),
(∃ (es : List D),
(∃ (c : Nat),
(((D.cell x0 8) = (D.sl a 9 es c)) ∧
(L_impl_SizeOf_3 Q N (1 : Int) a es c (((List.length es) : Nat) : Int) (0 : Int) N))))))) : ACalls prog 93 [.int .i64] [PV.dg 9 x0] N Q :=
  entryE (sh := sh) (H := H_impl_SizeOf) (fuel := 400) (by kernel_rfl) (by kernel_rfl) (by kernel_rfl) h
theorem w_impl_paramNames (N : Nat) (a0 : Option Addr) (e0 : List D) (c0 : Nat) (Q : QT [.sl 0]) (h :
((Bel N (D.sl a0 4 e0 c0)) →
(L_impl_paramNames_3 Q N 0 0 a0 e0 c0 (((List.length e0) : Nat) : Int) (0 : Int) [] 0 N))) : ACalls prog 90 [.sl 0] [PV.sv a0 4 e0 c0] N Q :=
  entryE (sh := sh) (H := H_impl_paramNames) (fuel := 400) (by kernel_rfl) (by kernel_rfl) (by kernel_rfl) h
theorem w_spec_AreParams (N : Nat) (a0 : Option Addr) (e0 : List D) (c0 : Nat) (Q : QT [.bool]) (h :
((Bel N (D.sl a0 4 e0 c0)) →
(L_spec_AreParams_3 Q N a0 e0 c0 0 0 (0 : Int) [] 0 N))) : ACalls prog 53 [.bool] [PV.sv a0 4 e0 c0] N Q :=
  entryE (sh := sh) (H := H_spec_AreParams) (fuel := 400) (by kernel_rfl) (by kernel_rfl) (by kernel_rfl) h
theorem w_spec_BodyType (N : Nat) (a0 : Option Addr) (e0 : List D) (c0 : Nat) (x1 : D) (Q : QT [.ag 2, .bool]) (h :
((Bel N (D.sl a0 4 e0 c0)) →
((Bel N x1) →
(∀ (N_1 : Nat),
((N ≤ N_1) →
(ACalls prog 53 [Sh.bool] [PV.sv a0 4 e0 c0] N_1 (fun (b : Bool) => (fun (N_2 : Nat) => 
((N_1 ≤ N_2) →
(Br (!b)
(∀ (N_3 : Nat),
((N_2 ≤ N_3) →
(Q (D.ag [(D.lit (Value.int IntKind.i64 (0 : Int))), (D.sl Option.none 2 [] 0)]) false N_3)))
(∀ (N_4 : Nat),
((N_2 ≤ N_4) →
(ACalls prog 54 [Sh.bool] [PV.dg 9 x1] N_4 (fun (b_1 : Bool) => (fun (N_5 : Nat) => 
((N_4 ≤ N_5) →
(Br (!b_1)
(∀ (N_6 : Nat),
((N_5 ≤ N_6) →
(Q (D.ag [(D.lit (Value.int IntKind.i64 (0 : Int))), (D.sl Option.none 2 [] 0)]) false N_6)))
(∀ (N_7 : Nat),
((N_5 ≤ N_7) →
(ACalls prog 55 [Sh.bool] [PV.dg 9 x1] N_7 (fun (b_2 : Bool) => (fun (N_8 : Nat) => 
((N_7 ≤ N_8) →
(Br (!b_2)
(∀ (N_9 : Nat),
((N_8 ≤ N_9) →
(Q (D.ag [(D.lit (Value.int IntKind.i64 (0 : Int))), (D.sl Option.none 2 [] 0)]) false N_9)))
(∀ (N_10 : Nat),
((N_8 ≤ N_10) →
(ACalls prog 56 [(Sh.sl 4)] [PV.sv a0 4 e0 c0] N_10 (fun (a : Option Addr) => (fun (es : List D) => (fun (c : Nat) => (fun (N_11 : Nat) => 
((N_10 ≤ N_11) →
((Bel N_11 (D.sl a 4 es c)) →
(∀ (N_12 : Nat),
((N_11 ≤ N_12) →
(ACalls prog 38 [(Sh.ag 2), Sh.bool] [PV.sv a 4 es c, PV.dg 9 x1, PV.int .i64 (0 : Int)] N_12 (fun (x : D) => (fun (b_3 : Bool) => (fun (N_13 : Nat) => 
((N_12 ≤ N_13) →
((Bel N_13 x) →
(∀ (N_14 : Nat),
((N_13 ≤ N_14) →
(Q x b_3 N_14)))))))))))))))))))))))))))))))))))))))))))) : ACalls prog 21 [.ag 2, .bool] [PV.sv a0 4 e0 c0, PV.dg 9 x1] N Q :=
  entryE (sh := sh) (H := H_spec_BodyType) (fuel := 400) (by kernel_rfl) (by kernel_rfl) (by kernel_rfl) h
theorem w_spec_DepthOf (N : Nat) (x0 : D) (Q : QT [.int .i64]) (h :
((Bel N x0) →
(L_spec_DepthOf_3 Q N (0 : Int) (0 : Int) x0 N))) : ACalls prog 87 [.int .i64] [PV.dg 9 x0] N Q :=
  entryE (sh := sh) (H := H_spec_DepthOf) (fuel := 400) (by kernel_rfl) (by kernel_rfl) (by kernel_rfl) h
theorem w_spec_IndexOf (N : Nat) (a0 : Option Addr) (e0 : List D) (c0 : Nat) (s1 : ByteArray) (Q : QT [.int .i64]) (h :
((Bel N (D.sl a0 0 e0 c0)) →
(L_spec_IndexOf_2 Q N a0 e0 c0 s1 (0 : Int) N))) : ACalls prog 85 [.int .i64] [PV.sv a0 0 e0 c0, PV.str s1] N Q :=
  entryE (sh := sh) (H := H_spec_IndexOf) (fuel := 400) (by kernel_rfl) (by kernel_rfl) (by kernel_rfl) h
theorem w_spec_IsValidTerm (N : Nat) (x0 : D) (Q : QT [.bool]) (h :
((Bel N x0) →
(∀ (N_1 : Nat),
((N ≤ N_1) →
(ACalls prog 86 [(Sh.int IntKind.i64)] [PV.dg 9 x0, PV.int .i64 (80 : Int)] N_1 (fun (n : Int) => (fun (N_2 : Nat) => 
((N_1 ≤ N_2) →
(Br (decide ((n ≥ (0 : Int))))
(∀ (N_3 : Nat),
((N_2 ≤ N_3) →
(ACalls prog 87 [(Sh.int IntKind.i64)] [PV.dg 9 x0] N_3 (fun (n_1 : Int) => (fun (N_4 : Nat) => 
((N_3 ≤ N_4) →
(Br (decide ((n_1 ≤ (20 : Int))))
(∀ (N_5 : Nat),
((N_4 ≤ N_5) →
(ACalls prog 72 [Sh.bool] [PV.dg 9 x0] N_5 (fun (b : Bool) => (fun (N_6 : Nat) => 
((N_5 ≤ N_6) →
(∀ (N_7 : Nat),
((N_6 ≤ N_7) →
(Q b N_7)))))))))
(∀ (N_8 : Nat),
((N_4 ≤ N_8) →
(Q false N_8))))))))))
(∀ (N_9 : Nat),
((N_2 ≤ N_9) →
(Q false N_9)))))))))))) : ACalls prog 54 [.bool] [PV.dg 9 x0] N Q :=
  entryE (sh := sh) (H := H_spec_IsValidTerm) (fuel := 400) (by kernel_rfl) (by kernel_rfl) (by kernel_rfl) h
theorem w_spec_l15Ctx (N : Nat) (a0 : Option Addr) (e0 : List D) (c0 : Nat) (Q : QT [.sl 4]) (h :
((Bel N (D.sl a0 4 e0 c0)) →
(L_spec_l15Ctx_3 Q N a0 e0 c0 0 0 (0 : Int) [] 0 N))) : ACalls prog 56 [.sl 4] [PV.sv a0 4 e0 c0] N Q :=
  entryE (sh := sh) (H := H_spec_l15Ctx) (fuel := 400) (by kernel_rfl) (by kernel_rfl) (by kernel_rfl) h
theorem w_spec_l15Is (N : Nat) (x0 : D) (Q : QT [.bool]) (h :
((Bel N x0) →
(L_spec_l15Is_2 Q N (0 : Int) x0 N))) : ACalls prog 55 [.bool] [PV.dg 9 x0] N Q :=
  entryE (sh := sh) (H := H_spec_l15Is) (fuel := 400) (by kernel_rfl) (by kernel_rfl) (by kernel_rfl) h
theorem w_spec_l5Left (N : Nat) (x0 : D) (n1 : Int) (Q : QT [.int .i64]) (h :
((Bel N x0) →
(L_spec_l5Left_3 Q N (IntKind.i64.wrap (n1 - (1 : Int) : Int)) (0 : Int) x0 N))) : ACalls prog 86 [.int .i64] [PV.dg 9 x0, PV.int .i64 n1] N Q :=
  entryE (sh := sh) (H := H_spec_l5Left) (fuel := 400) (by kernel_rfl) (by kernel_rfl) (by kernel_rfl) h
theorem w_laws_FnExactBodyType (N : Nat) (a0 : Option Addr) (e0 : List D) (c0 : Nat) (x1 : D) (Q : QT [.bool]) (h :
((Bel N (D.sl a0 4 e0 c0)) →
((Bel N x1) →
(∀ (N_1 : Nat),
((N ≤ N_1) →
(ACalls prog 20 [(Sh.int IntKind.i64)] [PV.sv a0 4 e0 c0, PV.int .i64 (1048576 : Int)] N_1 (fun (n : Int) => (fun (N_2 : Nat) => 
((N_1 ≤ N_2) →
(Br (decide ((n < (0 : Int))))
(∀ (N_3 : Nat),
((N_2 ≤ N_3) →
(Q true N_3)))
(∀ (N_4 : Nat),
((N_2 ≤ N_4) →
(ACalls prog 8 [(Sh.int IntKind.i64)] [PV.dg 9 x1, PV.int .i64 n] N_4 (fun (n_1 : Int) => (fun (N_5 : Nat) => 
((N_4 ≤ N_5) →
(Br (decide ((n_1 < (0 : Int))))
(∀ (N_6 : Nat),
((N_5 ≤ N_6) →
(Q true N_6)))
(∀ (N_7 : Nat),
((N_5 ≤ N_7) →
(ACalls prog 22 [(Sh.sl 4)] [PV.sv a0 4 e0 c0] N_7 (fun (a : Option Addr) => (fun (es : List D) => (fun (c : Nat) => (fun (N_8 : Nat) => 
((N_7 ≤ N_8) →
((Bel N_8 (D.sl a 4 es c)) →
(∀ (N_9 : Nat),
((N_8 ≤ N_9) →
(ACalls prog 11 [(Sh.ag 9)] [PV.dg 9 x1] N_9 (fun (x : D) => (fun (N_10 : Nat) => 
((N_9 ≤ N_10) →
((Bel N_10 x) →
(∀ (N_11 : Nat),
((N_10 ≤ N_11) →
(ACalls prog 21 [(Sh.ag 2), Sh.bool] [PV.sv a 4 es c, PV.dg 9 x] N_11 (fun (x_1 : D) => (fun (b : Bool) => (fun (N_12 : Nat) => 
((N_11 ≤ N_12) →
((Bel N_12 x_1) →
(∀ (N_13 : Nat),
((N_12 ≤ N_13) →
(ACalls prog 22 [(Sh.sl 4)] [PV.sv a0 4 e0 c0] N_13 (fun (a_1 : Option Addr) => (fun (es_1 : List D) => (fun (c_1 : Nat) => (fun (N_14 : Nat) => 
((N_13 ≤ N_14) →
((Bel N_14 (D.sl a_1 4 es_1 c_1)) →
(∀ (N_15 : Nat),
((N_14 ≤ N_15) →
(ACalls prog 11 [(Sh.ag 9)] [PV.dg 9 x1] N_15 (fun (x_2 : D) => (fun (N_16 : Nat) => 
((N_15 ≤ N_16) →
((Bel N_16 x_2) →
(∀ (N_17 : Nat),
((N_16 ≤ N_17) →
(ACalls prog 23 [(Sh.ag 2), Sh.bool] [PV.sv a_1 4 es_1 c_1, PV.dg 9 x_2] N_17 (fun (x_3 : D) => (fun (b_1 : Bool) => (fun (N_18 : Nat) => 
((N_17 ≤ N_18) →
((Bel N_18 x_3) →
(∀ (N_19 : Nat),
((N_18 ≤ N_19) →
(ACalls prog 13 [Sh.bool] [PV.dg 2 x_3, PV.dg 2 x_1] N_19 (fun (b_2 : Bool) => (fun (N_20 : Nat) => 
((N_19 ≤ N_20) →
(Br (!b_2)
(∀ (N_21 : Nat),
((N_20 ≤ N_21) →
(Q false N_21)))
(Br (!(b_1 == b))
(∀ (N_22 : Nat),
((N_20 ≤ N_22) →
(Q false N_22)))
(∀ (N_23 : Nat),
((N_20 ≤ N_23) →
(ACalls prog 22 [(Sh.sl 4)] [PV.sv a0 4 e0 c0] N_23 (fun (a_2 : Option Addr) => (fun (es_2 : List D) => (fun (c_2 : Nat) => (fun (N_24 : Nat) => 
((N_23 ≤ N_24) →
((Bel N_24 (D.sl a_2 4 es_2 c_2)) →
(∀ (N_25 : Nat),
((N_24 ≤ N_25) →
(ACalls prog 24 [Sh.bool] [PV.sv a_1 4 es_1 c_1, PV.sv a_2 4 es_2 c_2] N_25 (fun (b_3 : Bool) => (fun (N_26 : Nat) => 
((N_25 ≤ N_26) →
(Br (!b_3)
(∀ (N_27 : Nat),
((N_26 ≤ N_27) →
(Q false N_27)))
(∀ (N_28 : Nat),
((N_26 ≤ N_28) →
(ACalls prog 11 [(Sh.ag 9)] [PV.dg 9 x1] N_28 (fun (x_4 : D) => (fun (N_29 : Nat) => 
((N_28 ≤ N_29) →
((Bel N_29 x_4) →
(∀ (N_30 : Nat),
((N_29 ≤ N_30) →
(ACalls prog 15 [Sh.bool] [PV.dg 9 x_2, PV.dg 9 x_4] N_30 (fun (b_4 : Bool) => (fun (N_31 : Nat) => 
((N_30 ≤ N_31) →
(Br (!b_4)
(∀ (N_32 : Nat),
((N_31 ≤ N_32) →
(Q false N_32)))
((Tree (D.sl a_1 4 es_1 c_1)) ∧
((Low N (D.sl a_1 4 es_1 c_1)) ∧
((Dis (D.sl a_1 4 es_1 c_1) [(D.sl a0 4 e0 c0), x1, x_1, x_2, x_3]) ∧
(∀ (N_33 : Nat),
((N_31 ≤ N_33) →
(MC prog 25 (D.sl a_1 4 es_1 c_1) (1 : Int) N_33 (fun (x_5 : D) => (fun (n_2 : Int) => (fun (N_34 : Nat) => 
((N_33 ≤ N_34) →
((Tree x_2) ∧
((Low N x_2) ∧
((x_2 = x_2) ∧
((Dis x_2 [(D.sl a0 4 e0 c0), x1, x_1, x_3]) ∧
(∀ (N_35 : Nat),
((N_34 ≤ N_35) →
(MC prog 17 x_2 n_2 N_35 (fun (x_6 : D) => (fun (n_3 : Int) => (fun (N_36 : Nat) => 
((N_35 ≤ N_36) →
(Br (decide ((n_3 < (0 : Int))))
(∀ (N_37 : Nat),
((N_36 ≤ N_37) →
(Q false N_37)))
(∀ (N_38 : Nat),
((N_36 ≤ N_38) →
(ACalls prog 13 [Sh.bool] [PV.dg 2 x_3, PV.dg 2 x_1] N_38 (fun (b_5 : Bool) => (fun (N_39 : Nat) => 
((N_38 ≤ N_39) →
(Br (!b_5)
(∀ (N_40 : Nat),
((N_39 ≤ N_40) →
(Q false N_40)))
(Br (!(b_1 == b))
(∀ (N_41 : Nat),
((N_39 ≤ N_41) →
(Q false N_41)))
((Tree x_3) ∧
((Low N x_3) ∧
((x_3 = x_3) ∧
((Dis x_3 [(D.sl a0 4 e0 c0), x1, x_1, x_6]) ∧
(∀ (N_42 : Nat),
((N_39 ≤ N_42) →
(MC prog 18 x_3 (1 : Int) N_42 (fun (x_7 : D) => (fun (n_4 : Int) => (fun (N_43 : Nat) => 
((N_42 ≤ N_43) →
(∀ (N_44 : Nat),
((N_43 ≤ N_44) →
(ACalls prog 19 [(Sh.int IntKind.i64)] [PV.dg 2 x_7, PV.int .i64 (1 : Int)] N_44 (fun (n_5 : Int) => (fun (N_45 : Nat) => 
((N_44 ≤ N_45) →
(Br (decide ((n_5 < (0 : Int))))
(∀ (N_46 : Nat),
((N_45 ≤ N_46) →
(Q false N_46)))
(Br (bne n_5 n_4)
(∀ (N_47 : Nat),
((N_45 ≤ N_47) →
(Q false N_47)))
(∀ (N_48 : Nat),
((N_45 ≤ N_48) →
(ACalls prog 22 [(Sh.sl 4)] [PV.sv a0 4 e0 c0] N_48 (fun (a_3 : Option Addr) => (fun (es_3 : List D) => (fun (c_3 : Nat) => (fun (N_49 : Nat) => 
((N_48 ≤ N_49) →
((Bel N_49 (D.sl a_3 4 es_3 c_3)) →
(∀ (N_50 : Nat),
((N_49 ≤ N_50) →
(ACalls prog 11 [(Sh.ag 9)] [PV.dg 9 x1] N_50 (fun (x_8 : D) => (fun (N_51 : Nat) => 
((N_50 ≤ N_51) →
((Bel N_51 x_8) →
(∀ (N_52 : Nat),
((N_51 ≤ N_52) →
(ACalls prog 23 [(Sh.ag 2), Sh.bool] [PV.sv a_3 4 es_3 c_3, PV.dg 9 x_8] N_52 (fun (x_9 : D) => (fun (b_6 : Bool) => (fun (N_53 : Nat) => 
((N_52 ≤ N_53) →
((Bel N_53 x_9) →
(∀ (N_54 : Nat),
((N_53 ≤ N_54) →
(ACalls prog 13 [Sh.bool] [PV.dg 2 x_9, PV.dg 2 x_1] N_54 (fun (b_7 : Bool) => (fun (N_55 : Nat) => 
((N_54 ≤ N_55) →
(Br (!b_7)
(∀ (N_56 : Nat),
((N_55 ≤ N_56) →
(Q false N_56)))
(Br (!(b_6 == b))
(∀ (N_57 : Nat),
((N_55 ≤ N_57) →
(Q false N_57)))
(∀ (N_58 : Nat),
((N_55 ≤ N_58) →
(ACalls prog 19 [(Sh.int IntKind.i64)] [PV.dg 2 x_7, PV.int .i64 (1 : Int)] N_58 (fun (n_6 : Int) => (fun (N_59 : Nat) => 
((N_58 ≤ N_59) →
(Br (decide ((n_6 < (0 : Int))))
(∀ (N_60 : Nat),
((N_59 ≤ N_60) →
(Q false N_60)))
(Br (bne n_6 n_4)
(∀ (N_61 : Nat),
((N_59 ≤ N_61) →
(Q false N_61)))
(∀ (N_62 : Nat),
((N_59 ≤ N_62) →
(Q true N_62))))))))))))))))))))))))))))))))))))))))))))))))))))))))))))))))))))))))))))))))))))))))))))))))))))))))))))))))))))))))))))))))))))))))))))))))))))))))))))))))))))))))))))))))))))))))))))))))))) : ACalls prog 4 [.bool] [PV.sv a0 4 e0 c0, PV.dg 9 x1] N Q :=
  entryE (sh := sh) (H := H_laws_FnExactBodyType) (fuel := 400) (by kernel_rfl) (by kernel_rfl) (by kernel_rfl) h
theorem l_impl_AreParams_5 (Q : QT [.bool]) (N0 : Nat) (a3 : Option Addr) (e3 : List D) (c3 : Nat) (a11 : Option Addr) (e11 : List D) (c11 : Nat) (n12 : Int) (n13 : Int) (N : Nat) (h :
(Br (decide ((n13 < n12)))
((((0 : Int) ≤ n13) ∧
(n13 < (((List.length e11) : Nat) : Int))) ∧
(∃ (s : ByteArray),
(((D.cell (List.getD e11 (Int.toNat n13) Inhabited.default) 0) = (D.lit (Value.string s))) ∧
(∀ (N_1 : Nat),
((N ≤ N_1) →
(ACalls prog 78 [Sh.bool] [PV.str s] N_1 (fun (b : Bool) => (fun (N_2 : Nat) => 
((N_1 ≤ N_2) →
(Br (!b)
(∀ (N_3 : Nat),
((N_2 ≤ N_3) →
(Q false N_3)))
(∀ (N_4 : Nat),
((N_2 ≤ N_4) →
(ACalls prog 91 [Sh.bool] [PV.dg 2 (D.sub (List.getD e11 (Int.toNat n13) Inhabited.default) 1 2)] N_4 (fun (b_1 : Bool) => (fun (N_5 : Nat) => 
((N_4 ≤ N_5) →
(Br (!b_1)
(∀ (N_6 : Nat),
((N_5 ≤ N_6) →
(Q false N_6)))
(∃ (s_1 : ByteArray),
(((D.cell (List.getD e11 (Int.toNat n13) Inhabited.default) 0) = (D.lit (Value.string s_1))) ∧
(∀ (N_7 : Nat),
((N_5 ≤ N_7) →
(ACalls prog 92 [(Sh.int IntKind.i64)] [PV.sv a3 0 e3 c3, PV.str s_1] N_7 (fun (n : Int) => (fun (N_8 : Nat) => 
((N_7 ≤ N_8) →
(Br (bne n n13)
(∀ (N_9 : Nat),
((N_8 ≤ N_9) →
(Q false N_9)))
(L_impl_AreParams_5 Q N0 a3 e3 c3 a11 e11 c11 n12 (IntKind.i64.wrap (n13 + (1 : Int) : Int)) N_8)))))))))))))))))))))))))))
(∀ (N_10 : Nat),
((N ≤ N_10) →
(Q true N_10))))) : L_impl_AreParams_5 Q N0 a3 e3 c3 a11 e11 c11 n12 n13 N :=
  headE (sh := sh) (H := H_impl_AreParams) (fuel := 400) (by kernel_rfl) (by kernel_rfl) h
theorem w_impl_allTerms_i0b (N : Nat) (x0 : D) (Q : QT [.bool]) (h :
((Bel N x0) →
(∀ (N_1 : Nat),
((N ≤ N_1) →
(ACalls prog 59 [Sh.bool] [PV.dg 9 x0] N_1 (fun (b : Bool) => (fun (N_2 : Nat) => 
((N_1 ≤ N_2) →
(Br b
(∃ (a : Option Addr),
(∃ (es : List D),
(∃ (c : Nat),
(((D.cell x0 8) = (D.sl a 9 es c)) ∧
(∀ (ad : Addr),
((ApA (Option.some ad) [(D.fn (OfNat.ofNat 59) [])]) →
((Off [(Option.some ad)] (D.sl a 9 es c)) →
(∀ (N_3 : Nat),
((N_2 ≤ N_3) →
((BelA N_3 [(Option.some ad)]) →
(ACalls prog 88 [Sh.bool] [PV.sv a 9 es c, PV.fn 89 [.pd ad 0 (.fn 59 [])]] N_3 (fun (b_1 : Bool) => (fun (N_4 : Nat) => 
((N_3 ≤ N_4) →
(∀ (N_5 : Nat),
((N_4 ≤ N_5) →
(Q (!b_1) N_5)))))))))))))))))
(∀ (N_6 : Nat),
((N_2 ≤ N_6) →
(Q false N_6)))))))))))) : ACalls prog 58 [.bool] [.dg 9 x0, .fn 59 []] N Q :=
  entryE (sh := sh) (H := H_impl_allTermsb) (fuel := 400) (by kernel_rfl) (by kernel_rfl) (by kernel_rfl) h
theorem l_impl_BodyType_6 (Q : QT [.ag 2, .bool]) (N0 : Nat) (m7 : Nat) (c7 : Nat) (a26 : Option Addr) (e26 : List D) (c26 : Nat) (n27 : Int) (n28 : Int) (y0 : D) (n1_0 : Int) (a1_1 : Option Addr) (e1_1 : List D) (c1_1 : Nat) (r2 : List D) (q2 : Nat) (N : Nat) (h :
(Br (decide ((n28 < n27)))
((((0 : Int) ≤ n28) ∧
(n28 < (((List.length e26) : Nat) : Int))) ∧
(∃ (s : ByteArray),
(((D.cell (List.getD e26 (Int.toNat n28) Inhabited.default) 0) = (D.lit (Value.string s))) ∧
(((m7 = (List.length r2)) ∧
(c7 = q2)) ∧
((apBound r2 [(D.ag [(D.lit (Value.string s)), (D.cell (D.sub (List.getD e26 (Int.toNat n28) Inhabited.default) 1 2) 0), (D.cell (D.sub (List.getD e26 (Int.toNat n28) Inhabited.default) 1 2) 1), (D.lit (Value.int IntKind.i64 (0 : Int)))])] 56) ∧
(∀ (c : Nat),
(L_impl_BodyType_6 Q N0 (List.length (r2 ++ [(D.ag [(D.lit (Value.string s)), (D.cell (D.sub (List.getD e26 (Int.toNat n28) Inhabited.default) 1 2) 0), (D.cell (D.sub (List.getD e26 (Int.toNat n28) Inhabited.default) 1 2) 1), (D.lit (Value.int IntKind.i64 (0 : Int)))])])) c a26 e26 c26 n27 (IntKind.i64.wrap (n28 + (1 : Int) : Int)) y0 n1_0 a1_1 e1_1 c1_1 (r2 ++ [(D.ag [(D.lit (Value.string s)), (D.cell (D.sub (List.getD e26 (Int.toNat n28) Inhabited.default) 1 2) 0), (D.cell (D.sub (List.getD e26 (Int.toNat n28) Inhabited.default) 1 2) 1), (D.lit (Value.int IntKind.i64 (0 : Int)))])]) c N)))))))
(((m7 = (List.length r2)) ∧
(c7 = q2)) ∧
(∀ (a : Option Addr),
((ApA a r2) →
((Off [a] y0) →
(∀ (N_1 : Nat),
((N ≤ N_1) →
((BelA N_1 [a]) →
(ACalls prog 12 [(Sh.ag 2), Sh.bool] [PV.sv a 4 r2 c7, PV.dg 9 y0, PV.int .i64 (0 : Int)] N_1 (fun (x : D) => (fun (b : Bool) => (fun (N_2 : Nat) => 
((N_1 ≤ N_2) →
((Off [a] x) ∧
((Bel N_2 x) →
(∀ (N_3 : Nat),
((N_2 ≤ N_3) →
(Q x b N_3))))))))))))))))))) : L_impl_BodyType_6 Q N0 m7 c7 a26 e26 c26 n27 n28 y0 n1_0 a1_1 e1_1 c1_1 r2 q2 N :=
  headE (sh := sh) (H := H_impl_BodyType) (fuel := 400) (by kernel_rfl) (by kernel_rfl) h
theorem l_impl_DepthOf_3 (Q : QT [.int .i64]) (N0 : Nat) (n3 : Int) (a7 : Option Addr) (e7 : List D) (c7 : Nat) (n8 : Int) (n9 : Int) (N : Nat) (h :
(Br (decide ((n9 < n8)))
((((0 : Int) ≤ n9) ∧
(n9 < (((List.length e7) : Nat) : Int))) ∧
(∀ (N_1 : Nat),
((N ≤ N_1) →
(ACalls prog 94 [(Sh.int IntKind.i64)] [PV.dg 9 (List.getD e7 (Int.toNat n9) Inhabited.default)] N_1 (fun (n : Int) => (fun (N_2 : Nat) => 
((N_1 ≤ N_2) →
(L_impl_DepthOf_3 Q N0 (if (n > n3) then n else n3) a7 e7 c7 n8 (IntKind.i64.wrap (n9 + (1 : Int) : Int)) N_2))))))))
(∀ (N_3 : Nat),
((N ≤ N_3) →
(Q (IntKind.i64.wrap (n3 + (1 : Int) : Int)) N_3))))) : L_impl_DepthOf_3 Q N0 n3 a7 e7 c7 n8 n9 N :=
  headE (sh := sh) (H := H_impl_DepthOf) (fuel := 400) (by kernel_rfl) (by kernel_rfl) h
theorem l_impl_SizeOf_3 (Q : QT [.int .i64]) (N0 : Nat) (n3 : Int) (a7 : Option Addr) (e7 : List D) (c7 : Nat) (n8 : Int) (n9 : Int) (N : Nat) (h :
(Br (decide ((n9 < n8)))
((((0 : Int) ≤ n9) ∧
(n9 < (((List.length e7) : Nat) : Int))) ∧
(∀ (N_1 : Nat),
((N ≤ N_1) →
(ACalls prog 93 [(Sh.int IntKind.i64)] [PV.dg 9 (List.getD e7 (Int.toNat n9) Inhabited.default)] N_1 (fun (n : Int) => (fun (N_2 : Nat) => 
((N_1 ≤ N_2) →
(L_impl_SizeOf_3 Q N0 (IntKind.i64.wrap (n3 + n : Int)) a7 e7 c7 n8 (IntKind.i64.wrap (n9 + (1 : Int) : Int)) N_2))))))))
(∀ (N_3 : Nat),
((N ≤ N_3) →
(Q n3 N_3))))) : L_impl_SizeOf_3 Q N0 n3 a7 e7 c7 n8 n9 N :=
  headE (sh := sh) (H := H_impl_SizeOf) (fuel := 400) (by kernel_rfl) (by kernel_rfl) h
theorem l_impl_paramNames_3 (Q : QT [.sl 0]) (N0 : Nat) (m3 : Nat) (c3 : Nat) (a7 : Option Addr) (e7 : List D) (c7 : Nat) (n8 : Int) (n9 : Int) (r0 : List D) (q0 : Nat) (N : Nat) (h :
(Br (decide ((n9 < n8)))
((((0 : Int) ≤ n9) ∧
(n9 < (((List.length e7) : Nat) : Int))) ∧
(∃ (s : ByteArray),
(((D.cell (List.getD e7 (Int.toNat n9) Inhabited.default) 0) = (D.lit (Value.string s))) ∧
(((m3 = (List.length r0)) ∧
(c3 = q0)) ∧
((apBound r0 [(D.lit (Value.string s))] 16) ∧
(∀ (c : Nat),
(L_impl_paramNames_3 Q N0 (List.length (r0 ++ [(D.lit (Value.string s))])) c a7 e7 c7 n8 (IntKind.i64.wrap (n9 + (1 : Int) : Int)) (r0 ++ [(D.lit (Value.string s))]) c N)))))))
(((m3 = (List.length r0)) ∧
(c3 = q0)) ∧
(((m3 = (List.length r0)) ∧
(c3 = q0)) ∧
(((m3 = (List.length r0)) ∧
(c3 = q0)) ∧
(∀ (a : Option Addr),
(∀ (N_1 : Nat),
((N ≤ N_1) →
((Fresh N0 N_1 a [(D.ag r0)]) →
(∀ (N_2 : Nat),
((N_1 ≤ N_2) →
(Q a r0 q0 N_2)))))))))))) : L_impl_paramNames_3 Q N0 m3 c3 a7 e7 c7 n8 n9 r0 q0 N :=
  headE (sh := sh) (H := H_impl_paramNames) (fuel := 400) (by kernel_rfl) (by kernel_rfl) h
theorem l_spec_AreParams_3 (Q : QT [.bool]) (N0 : Nat) (a0 : Option Addr) (e0 : List D) (c0 : Nat) (m3 : Nat) (c3 : Nat) (n4 : Int) (r0 : List D) (q0 : Nat) (N : Nat) (h :
(Br (decide ((n4 < (((List.length e0) : Nat) : Int))))
((((0 : Int) ≤ n4) ∧
(n4 < (((List.length e0) : Nat) : Int))) ∧
(∃ (s : ByteArray),
(((if (0 = 0) then (D.cell (List.getD e0 (Int.toNat n4) Inhabited.default) 0) else (D.sub (List.getD e0 (Int.toNat n4) Inhabited.default) 0 0)) = (D.lit (Value.string s))) ∧
(∀ (N_1 : Nat),
((N ≤ N_1) →
(ACalls prog 69 [Sh.bool] [PV.str s] N_1 (fun (b : Bool) => (fun (N_2 : Nat) => 
((N_1 ≤ N_2) →
(Br (!b)
(∀ (N_3 : Nat),
((N_2 ≤ N_3) →
(Q false N_3)))
((((0 : Int) ≤ n4) ∧
(n4 < (((List.length e0) : Nat) : Int))) ∧
(∀ (N_4 : Nat),
((N_2 ≤ N_4) →
(ACalls prog 84 [Sh.bool] [PV.dg 2 (if (2 = 0) then (D.cell (List.getD e0 (Int.toNat n4) Inhabited.default) 1) else (D.sub (List.getD e0 (Int.toNat n4) Inhabited.default) 1 2))] N_4 (fun (b_1 : Bool) => (fun (N_5 : Nat) => 
((N_4 ≤ N_5) →
(Br (!b_1)
(∀ (N_6 : Nat),
((N_5 ≤ N_6) →
(Q false N_6)))
((((0 : Int) ≤ n4) ∧
(n4 < (((List.length e0) : Nat) : Int))) ∧
(∃ (s_1 : ByteArray),
(((if (0 = 0) then (D.cell (List.getD e0 (Int.toNat n4) Inhabited.default) 0) else (D.sub (List.getD e0 (Int.toNat n4) Inhabited.default) 0 0)) = (D.lit (Value.string s_1))) ∧
(((m3 = (List.length r0)) ∧
(c3 = q0)) ∧
(∀ (a : Option Addr),
((ApA a r0) →
(∀ (N_7 : Nat),
((N_5 ≤ N_7) →
((BelA N_7 [a]) →
(ACalls prog 85 [(Sh.int IntKind.i64)] [PV.sv a 0 r0 c3, PV.str s_1] N_7 (fun (n : Int) => (fun (N_8 : Nat) => 
((N_7 ≤ N_8) →
(Br (decide ((n ≥ (0 : Int))))
(∀ (N_9 : Nat),
((N_8 ≤ N_9) →
(Q false N_9)))
((((0 : Int) ≤ n4) ∧
(n4 < (((List.length e0) : Nat) : Int))) ∧
(∃ (s_2 : ByteArray),
(((if (0 = 0) then (D.cell (List.getD e0 (Int.toNat n4) Inhabited.default) 0) else (D.sub (List.getD e0 (Int.toNat n4) Inhabited.default) 0 0)) = (D.lit (Value.string s_2))) ∧
(((m3 = (List.length r0)) ∧
(c3 = q0)) ∧
((apBound r0 [(D.lit (Value.string s_2))] 16) ∧
(∀ (c : Nat),
(L_spec_AreParams_3 Q N0 a0 e0 c0 (List.length (r0 ++ [(D.lit (Value.string s_2))])) c (IntKind.i64.wrap (n4 + (1 : Int) : Int)) (r0 ++ [(D.lit (Value.string s_2))]) c N_8)))))))))))))))))))))))))))))))))))))))
(∀ (N_10 : Nat),
((N ≤ N_10) →
(Q (decide ((((m3 : Nat) : Int) ≤ (5 : Int)))) N_10))))) : L_spec_AreParams_3 Q N0 a0 e0 c0 m3 c3 n4 r0 q0 N :=
  headE (sh := sh) (H := H_spec_AreParams) (fuel := 400) (by kernel_rfl) (by kernel_rfl) h
theorem l_spec_DepthOf_3 (Q : QT [.int .i64]) (N0 : Nat) (n3 : Int) (n4 : Int) (y0 : D) (N : Nat) (h :
(∃ (a : Option Addr),
(∃ (es : List D),
(∃ (c : Nat),
(((D.cell y0 8) = (D.sl a 9 es c)) ∧
(Br (decide ((n4 < (((List.length es) : Nat) : Int))))
(∃ (a_1 : Option Addr),
(∃ (es_1 : List D),
(∃ (c_1 : Nat),
(((D.cell y0 8) = (D.sl a_1 9 es_1 c_1)) ∧
((((0 : Int) ≤ n4) ∧
(n4 < (((List.length es_1) : Nat) : Int))) ∧
(∀ (N_1 : Nat),
((N ≤ N_1) →
(ACalls prog 87 [(Sh.int IntKind.i64)] [PV.dg 9 (List.getD es_1 (Int.toNat n4) Inhabited.default)] N_1 (fun (n : Int) => (fun (N_2 : Nat) => 
((N_1 ≤ N_2) →
(∀ (N_3 : Nat),
((N_2 ≤ N_3) →
(ACalls prog 130 [(Sh.int IntKind.i64)] [PV.int .i64 n3, PV.int .i64 n] N_3 (fun (n_1 : Int) => (fun (N_4 : Nat) => 
((N_3 ≤ N_4) →
(L_spec_DepthOf_3 Q N0 n_1 (IntKind.i64.wrap (n4 + (1 : Int) : Int)) y0 N_4))))))))))))))))))
(∀ (N_5 : Nat),
((N ≤ N_5) →
(Q (IntKind.i64.wrap (n3 + (1 : Int) : Int)) N_5))))))))) : L_spec_DepthOf_3 Q N0 n3 n4 y0 N :=
  headE (sh := sh) (H := H_spec_DepthOf) (fuel := 400) (by kernel_rfl) (by kernel_rfl) h
theorem l_spec_IndexOf_2 (Q : QT [.int .i64]) (N0 : Nat) (a0 : Option Addr) (e0 : List D) (c0 : Nat) (s1 : ByteArray) (n5 : Int) (N : Nat) (h :
(Br (decide ((n5 < (((List.length e0) : Nat) : Int))))
((((0 : Int) ≤ n5) ∧
(n5 < (((List.length e0) : Nat) : Int))) ∧
(∃ (s : ByteArray),
(((List.getD e0 (Int.toNat n5) Inhabited.default) = (D.lit (Value.string s))) ∧
(Br ((ByteArray.toList s) == (ByteArray.toList s1))
(∀ (N_1 : Nat),
((N ≤ N_1) →
(Q n5 N_1)))
(L_spec_IndexOf_2 Q N0 a0 e0 c0 s1 (IntKind.i64.wrap (n5 + (1 : Int) : Int)) N)))))
(∀ (N_2 : Nat),
((N ≤ N_2) →
(Q (-1 : Int) N_2))))) : L_spec_IndexOf_2 Q N0 a0 e0 c0 s1 n5 N :=
  headE (sh := sh) (H := H_spec_IndexOf) (fuel := 400) (by kernel_rfl) (by kernel_rfl) h
theorem l_spec_l15Ctx_3 (Q : QT [.sl 4]) (N0 : Nat) (a0 : Option Addr) (e0 : List D) (c0 : Nat) (m3 : Nat) (c3 : Nat) (n4 : Int) (r0 : List D) (q0 : Nat) (N : Nat) (h :
(Br (decide ((n4 < (((List.length e0) : Nat) : Int))))
((((0 : Int) ≤ n4) ∧
(n4 < (((List.length e0) : Nat) : Int))) ∧
(∃ (s : ByteArray),
(((if (0 = 0) then (D.cell (List.getD e0 (Int.toNat n4) Inhabited.default) 0) else (D.sub (List.getD e0 (Int.toNat n4) Inhabited.default) 0 0)) = (D.lit (Value.string s))) ∧
((((0 : Int) ≤ n4) ∧
(n4 < (((List.length e0) : Nat) : Int))) ∧
(((m3 = (List.length r0)) ∧
(c3 = q0)) ∧
((apBound r0 [(D.ag [(D.lit (Value.string s)), (D.cell (if (2 = 0) then (D.cell (List.getD e0 (Int.toNat n4) Inhabited.default) 1) else (D.sub (List.getD e0 (Int.toNat n4) Inhabited.default) 1 2)) 0), (D.cell (if (2 = 0) then (D.cell (List.getD e0 (Int.toNat n4) Inhabited.default) 1) else (D.sub (List.getD e0 (Int.toNat n4) Inhabited.default) 1 2)) 1), (D.lit (Value.int IntKind.i64 (0 : Int)))])] 56) ∧
(∀ (c : Nat),
(L_spec_l15Ctx_3 Q N0 a0 e0 c0 (List.length (r0 ++ [(D.ag [(D.lit (Value.string s)), (D.cell (if (2 = 0) then (D.cell (List.getD e0 (Int.toNat n4) Inhabited.default) 1) else (D.sub (List.getD e0 (Int.toNat n4) Inhabited.default) 1 2)) 0), (D.cell (if (2 = 0) then (D.cell (List.getD e0 (Int.toNat n4) Inhabited.default) 1) else (D.sub (List.getD e0 (Int.toNat n4) Inhabited.default) 1 2)) 1), (D.lit (Value.int IntKind.i64 (0 : Int)))])])) c (IntKind.i64.wrap (n4 + (1 : Int) : Int)) (r0 ++ [(D.ag [(D.lit (Value.string s)), (D.cell (if (2 = 0) then (D.cell (List.getD e0 (Int.toNat n4) Inhabited.default) 1) else (D.sub (List.getD e0 (Int.toNat n4) Inhabited.default) 1 2)) 0), (D.cell (if (2 = 0) then (D.cell (List.getD e0 (Int.toNat n4) Inhabited.default) 1) else (D.sub (List.getD e0 (Int.toNat n4) Inhabited.default) 1 2)) 1), (D.lit (Value.int IntKind.i64 (0 : Int)))])]) c N))))))))
(((m3 = (List.length r0)) ∧
(c3 = q0)) ∧
(((m3 = (List.length r0)) ∧
(c3 = q0)) ∧
(((m3 = (List.length r0)) ∧
(c3 = q0)) ∧
(∀ (a : Option Addr),
(∀ (N_1 : Nat),
((N ≤ N_1) →
((Fresh N0 N_1 a [(D.ag r0)]) →
(∀ (N_2 : Nat),
((N_1 ≤ N_2) →
(Q a r0 q0 N_2)))))))))))) : L_spec_l15Ctx_3 Q N0 a0 e0 c0 m3 c3 n4 r0 q0 N :=
  headE (sh := sh) (H := H_spec_l15Ctx) (fuel := 400) (by kernel_rfl) (by kernel_rfl) h
theorem l_spec_l15Is_2 (Q : QT [.bool]) (N0 : Nat) (n3 : Int) (y0 : D) (N : Nat) (h :
(∃ (a : Option Addr),
(∃ (es : List D),
(∃ (c : Nat),
(((D.cell y0 8) = (D.sl a 9 es c)) ∧
(Br (decide ((n3 < (((List.length es) : Nat) : Int))))
(∃ (a_1 : Option Addr),
(∃ (es_1 : List D),
(∃ (c_1 : Nat),
(((D.cell y0 8) = (D.sl a_1 9 es_1 c_1)) ∧
((((0 : Int) ≤ n3) ∧
(n3 < (((List.length es_1) : Nat) : Int))) ∧
(∀ (N_1 : Nat),
((N ≤ N_1) →
(ACalls prog 55 [Sh.bool] [PV.dg 9 (List.getD es_1 (Int.toNat n3) Inhabited.default)] N_1 (fun (b : Bool) => (fun (N_2 : Nat) => 
((N_1 ≤ N_2) →
(Br (!b)
(∀ (N_3 : Nat),
((N_2 ≤ N_3) →
(Q false N_3)))
(L_spec_l15Is_2 Q N0 (IntKind.i64.wrap (n3 + (1 : Int) : Int)) y0 N_2)))))))))))))
(∃ (n : Int),
(((D.cell y0 0) = (D.lit (Value.int IntKind.i64 n))) ∧
(∀ (N_4 : Nat),
((N ≤ N_4) →
(ACalls prog 71 [Sh.bool] [PV.int .i64 n, PV.int .i64 (1 : Int), PV.int .i64 (5 : Int)] N_4 (fun (b_1 : Bool) => (fun (N_5 : Nat) => 
((N_4 ≤ N_5) →
(Br b_1
(∀ (N_6 : Nat),
((N_5 ≤ N_6) →
(Q true N_6)))
(∃ (n_1 : Int),
(((D.cell y0 0) = (D.lit (Value.int IntKind.i64 n_1))) ∧
(∀ (N_7 : Nat),
((N_5 ≤ N_7) →
(Q (n_1 == (8 : Int)) N_7)))))))))))))))))))) : L_spec_l15Is_2 Q N0 n3 y0 N :=
  headE (sh := sh) (H := H_spec_l15Is) (fuel := 400) (by kernel_rfl) (by kernel_rfl) h
theorem l_spec_l5Left_3 (Q : QT [.int .i64]) (N0 : Nat) (n1 : Int) (n5 : Int) (y0 : D) (N : Nat) (h :
(∃ (a : Option Addr),
(∃ (es : List D),
(∃ (c : Nat),
(((D.cell y0 8) = (D.sl a 9 es c)) ∧
(Br (decide ((n5 < (((List.length es) : Nat) : Int))))
(Br (decide ((n1 ≥ (0 : Int))))
(∃ (a_1 : Option Addr),
(∃ (es_1 : List D),
(∃ (c_1 : Nat),
(((D.cell y0 8) = (D.sl a_1 9 es_1 c_1)) ∧
((((0 : Int) ≤ n5) ∧
(n5 < (((List.length es_1) : Nat) : Int))) ∧
(∀ (N_1 : Nat),
((N ≤ N_1) →
(ACalls prog 86 [(Sh.int IntKind.i64)] [PV.dg 9 (List.getD es_1 (Int.toNat n5) Inhabited.default), PV.int .i64 n1] N_1 (fun (n : Int) => (fun (N_2 : Nat) => 
((N_1 ≤ N_2) →
(L_spec_l5Left_3 Q N0 n (IntKind.i64.wrap (n5 + (1 : Int) : Int)) y0 N_2))))))))))))
(∀ (N_3 : Nat),
((N ≤ N_3) →
(Q n1 N_3))))
(∀ (N_4 : Nat),
((N ≤ N_4) →
(Q n1 N_4))))))))) : L_spec_l5Left_3 Q N0 n1 n5 y0 N :=
  headE (sh := sh) (H := H_spec_l5Left) (fuel := 400) (by kernel_rfl) (by kernel_rfl) h
theorem w_slices_ContainsFunc_Term_i0b (N : Nat) (a0 : Option Addr) (e0 : List D) (c0 : Nat) (a1_0 : Addr) (Q : QT [.bool]) (h :
((Bel N (D.sl a0 9 e0 c0)) →
(∀ (N_1 : Nat),
((N ≤ N_1) →
(ACalls prog 131 [(Sh.int IntKind.i64)] [PV.sv a0 9 e0 c0, PV.fn 89 [.pd a1_0 0 (.fn 59 [])]] N_1 (fun (n : Int) => (fun (N_2 : Nat) => 
((N_1 ≤ N_2) →
(∀ (N_3 : Nat),
((N_2 ≤ N_3) →
(Q (decide ((n ≥ (0 : Int)))) N_3))))))))))) : ACalls prog 88 [.bool] [.sv a0 9 e0 c0, .fn 89 [.pd a1_0 0 (.fn 59 [])]] N Q :=
  entryE (sh := sh) (H := H_slices_ContainsFunc_Termb) (fuel := 400) (by kernel_rfl) (by kernel_rfl) (by kernel_rfl) h
theorem w_slices_IndexFunc_Term_i0b (N : Nat) (a0 : Option Addr) (e0 : List D) (c0 : Nat) (a1_0 : Addr) (Q : QT [.int .i64]) (h :
((Bel N (D.sl a0 9 e0 c0)) →
(L_slices_IndexFunc_Term_2b Q N a0 e0 c0 a1_0 (((List.length e0) : Nat) : Int) (0 : Int) N))) : ACalls prog 131 [.int .i64] [.sv a0 9 e0 c0, .fn 89 [.pd a1_0 0 (.fn 59 [])]] N Q :=
  entryE (sh := sh) (H := H_slices_IndexFunc_Termb) (fuel := 400) (by kernel_rfl) (by kernel_rfl) (by kernel_rfl) h
theorem l_slices_IndexFunc_Term_2b (Q : QT [.int .i64]) (N0 : Nat) (a0 : Option Addr) (e0 : List D) (c0 : Nat) (a1_0 : Addr) (n7 : Int) (n8 : Int) (N : Nat) (h :
(Br (decide ((n8 < n7)))
((((0 : Int) ≤ n8) ∧
(n8 < (((List.length e0) : Nat) : Int))) ∧
(∀ (N_1 : Nat),
((N ≤ N_1) →
(ACalls prog 89 [Sh.bool] [PV.dg 9 (List.getD e0 (Int.toNat n8) Inhabited.default), PV.pd a1_0 0 (.fn 59 [])] N_1 (fun (b : Bool) => (fun (N_2 : Nat) => 
((N_1 ≤ N_2) →
(Br b
(∀ (N_3 : Nat),
((N_2 ≤ N_3) →
(Q n8 N_3)))
(L_slices_IndexFunc_Term_2b Q N0 a0 e0 c0 a1_0 n7 (IntKind.i64.wrap (n8 + (1 : Int) : Int)) N_2)))))))))
(∀ (N_4 : Nat),
((N ≤ N_4) →
(Q (-1 : Int) N_4))))) : L_slices_IndexFunc_Term_2b Q N0 a0 e0 c0 a1_0 n7 n8 N :=
  headE (sh := sh) (H := H_slices_IndexFunc_Termb) (fuel := 400) (by kernel_rfl) (by kernel_rfl) h
theorem w_impl_allTerms_1_i0b (N : Nat) (x0 : D) (a1 : Addr) (Q : QT [.bool]) (h :
((Bel N x0) →
(∀ (N_1 : Nat),
((N ≤ N_1) →
(ACalls prog 58 [Sh.bool] [PV.dg 9 x0, PV.fn 59 []] N_1 (fun (b : Bool) => (fun (N_2 : Nat) => 
((N_1 ≤ N_2) →
(∀ (N_3 : Nat),
((N_2 ≤ N_3) →
(Q (!b) N_3))))))))))) : ACalls prog 89 [.bool] [.dg 9 x0, .pd a1 0 (.fn 59 [])] N Q :=
  entryE (sh := sh) (H := H_impl_allTerms_1b) (fuel := 400) (by kernel_rfl) (by kernel_rfl) (by kernel_rfl) h

end Go.Proofs.YtobhcgffgpcjgaaGreat

/- Printed by gen.py: what the functions come to. -/
set_option linter.unusedVariables false
set_option maxRecDepth 100000
namespace Go.Proofs.YtobhcgffgpcjgaaGreat
open Go Go.Proofs Go.Proofs.Tryz
def H_impl_BodyType_1 : Hint := { cuts := [], joins := [], ords := [] }
theorem w_impl_BodyType_1 (N : Nat) (x0 : D) (Q : QT [.bool]) (h :
((Bel N x0) →
(∃ (n : Int),
(((D.cell x0 0) = (D.lit (Value.int IntKind.i64 n))) ∧
(∀ (N_1 : Nat),
((N ≤ N_1) →
(ACalls prog 60 [Sh.bool] [PV.int .i64 n, PV.int .i64 (1 : Int), PV.int .i64 (5 : Int)] N_1 (fun (b : Bool) => (fun (N_2 : Nat) => 
((N_1 ≤ N_2) →
(Br b
(∀ (N_3 : Nat),
((N_2 ≤ N_3) →
(Q true N_3)))
(∃ (n_1 : Int),
(((D.cell x0 0) = (D.lit (Value.int IntKind.i64 n_1))) ∧
(∀ (N_4 : Nat),
((N_2 ≤ N_4) →
(Q (n_1 == (8 : Int)) N_4)))))))))))))))) : ACalls prog 59 [.bool] [PV.dg 9 x0] N Q :=
  entryE (sh := sh) (H := H_impl_BodyType_1) (fuel := 400) (by kernel_rfl) (by kernel_rfl) (by kernel_rfl) h

end Go.Proofs.YtobhcgffgpcjgaaGreat
