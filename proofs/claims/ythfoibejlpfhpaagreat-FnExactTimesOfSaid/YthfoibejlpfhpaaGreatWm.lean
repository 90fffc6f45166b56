/- Printed by gen.py: what the functions come to. -/
import Derived.Test.YthfoibejlpfhpaaGreatJh
set_option linter.unusedVariables false
set_option maxRecDepth 100000
namespace Go.Proofs.YthfoibejlpfhpaaGreat
open Go Go.Proofs Go.Proofs.Tryz
def H_laws_szParam : Hint := ⟨[], [], [(4, hs 5 [ec 3 [13]])]⟩
def H_laws_szParamS : Hint := ⟨[hc 5 [0, 1, 5]], [], [(7, hs 7 [ec 5 [21]])]⟩
def H_laws_toParam : Hint := ⟨[], [], [(3, hs 5 [ec 2 [8]])]⟩
def H_laws_toParamS : Hint := ⟨[hc 3 [0, 3, 4]], [], [(5, hs 9 [ec 6 [19]])]⟩
def H_laws_eqParam : Hint := ⟨[], [], [(3, hs 6 [ec 4 [11, 13]])]⟩
def H_laws_eqParamS : Hint := ⟨[hc 4 [0, 1, 5]], [], [(6, [en 0, en 1, en 2, en 3, en 4, en 5, en 6, en 7, ec 8 [20, 24], en 9])]⟩
def H_laws_markParamS : Hint := ⟨[hc 2 [0, 1, 5]], [], [(8, hs 9 [em 7 (some 32) [0, 1, 5]])]⟩
def L_laws_szParamS_5 (Q : QT [.int .i64]) (N0 : Nat) (a0 : Option Addr) (e0 : List D) (c0 : Nat) (n1 n5 : Int) (N : Nat) : Prop := AT prog 11 [.int .i64] Q N0 .ord (loopAt prog 11 5) ⟨.sv a0 4 e0 c0 :: .int .i64 n1 :: an 3 (.int .i64 n5 :: an 21 []), [], N, none⟩
def L_laws_toParamS_3 (Q : QT [.sl 4]) (N0 : Nat) (a0 : Option Addr) (e0 : List D) (c0 m3 c3 : Nat) (n4 : Int) (r0 : List D) (q0 : Nat) (N : Nat) : Prop := AT prog 14 [.sl 4] Q N0 .ord (loopAt prog 14 3) ⟨.sv a0 4 e0 c0 :: an 2 (.sb 0 4 0 m3 c3 :: .int .i64 n4 :: an 18 []), [.arr 70 4 r0 q0], N, none⟩
def L_laws_eqParamS_4 (Q : QT [.bool]) (N0 : Nat) (a0 : Option Addr) (e0 : List D) (c0 : Nat) (a1 : Option Addr) (e1 : List D) (c1 : Nat) (n5 : Int) (N : Nat) : Prop := AT prog 17 [.bool] Q N0 .ord (loopAt prog 17 4) ⟨.sv a0 4 e0 c0 :: .sv a1 4 e1 c1 :: an 3 (.int .i64 n5 :: an 21 []), [], N, none⟩
def L_laws_markParamS_2 (Q : QT [.int .i64]) (N0 : Nat) (a0 : Option Addr) (e0 : List D) (c0 : Nat) (n1 n5 : Int) (N : Nat) : Prop := AT prog 22 [.int .i64] Q N0 .ord (loopAt prog 22 2) ⟨.sv a0 4 e0 c0 :: .int .i64 n1 :: an 3 (.int .i64 n5 :: an 40 []), [], N, none⟩
def L_laws_markParamS_2_v1 (T : List Nat) (b0 : Nat) (QM : Int → D → Nat → Prop) (N0 : Nat) (m0 c0 : Nat) (n1 n5 : Int) (t0 : Nat) (r0 : List D) (q0 : Nat) (N : Nat) : Prop := AT prog 22 [] noQ N0 (.mk T (some b0) (4, 0) QM) (loopAt prog 22 2) ⟨.sb 0 4 0 m0 c0 :: .int .i64 n1 :: an 3 (.int .i64 n5 :: an 40 []), [.arr t0 4 r0 q0], N, some ([some b0], T)⟩
theorem w_laws_szParam (N : Nat) (x0 : D) (n1 : Int) (Q : QT [.int .i64]) (h :
Bel N x0 → ∃ s, (x0.cell 0) = D.lit (.string s) ∧ Br (decide (IntKind.i64.wrap (n1 - (s.size : Int)) < 0)) (∀ N1, N ≤ N1 → Q (-1) N1) (∀ N2, N ≤ N2 → ACalls
 prog 43 [.int .i64] [.dg 2 (D.sub x0 1 2), .int .i64 (IntKind.i64.wrap (n1 - (s.size : Int)))] N2 (fun n N3 => N2 ≤ N3 → Br (decide (n < 0)) (∀ N4, N3 ≤ N4
 → Q (-1) N4) (∀ N5, N3 ≤ N5 → Q n N5)))) : ACalls prog 42 [.int .i64] [PV.dg 4 x0, PV.int .i64 n1] N Q :=
  eE (H := H_laws_szParam) (by kernel_rfl) (by kernel_rfl) h
theorem w_laws_szParamS (N : Nat) (a0 : Option Addr) (e0 : List D) (c0 : Nat) (n1 : Int) (Q : QT [.int .i64]) (h :
Bel N (D.sl a0 4 e0 c0) → Br (decide (IntKind.i64.wrap (n1 - (e0.length : Int)) < 0)) (∀ N1, N ≤ N1 → Q (-1) N1) (L_laws_szParamS_5 Q N a0 e0 c0 (IntKind.i64.wrap
 (n1 - (e0.length : Int))) 0 N)) : ACalls prog 11 [.int .i64] [PV.sv a0 4 e0 c0, PV.int .i64 n1] N Q :=
  eE (H := H_laws_szParamS) (by kernel_rfl) (by kernel_rfl) h
theorem w_laws_toParam (N : Nat) (x0 : D) (Q : QT [.ag 4]) (h :
Bel N x0 → ∃ s, (x0.cell 0) = D.lit (.string s) ∧ ∀ N1, N ≤ N1 → ACalls prog 47 [.ag 2] [.dg 2 (D.sub x0 1 2)] N1 (fun x N2 => N1 ≤ N2 → Bel N2 x → ∃ b :
 Bool, (x0.cell 3) = D.lit (.bool b) ∧ ∀ N3, N2 ≤ N3 → Q (D.ag [D.lit (.string s), (x.cell 0), (x.cell 1), D.lit (.bool b)]) N3)) : ACalls prog 46 [.ag 4] [PV.dg 4 x0] N Q :=
  eE (H := H_laws_toParam) (by kernel_rfl) (by kernel_rfl) h
theorem w_laws_toParamS (N : Nat) (a0 : Option Addr) (e0 : List D) (c0 : Nat) (Q : QT [.sl 4]) (h :
Bel N (D.sl a0 4 e0 c0) → (0 ≤ (e0.length : Int) ∧ (e0.length : Int) ≤ (e0.length : Int) ∧ (56 * (e0.length : Int)) ≤ 140737488355328 ∧ (e0.length : Int) ≤ 9223372036854775807)
 ∧ L_laws_toParamS_3 Q N a0 e0 c0 ((e0.length : Int)).toNat ((e0.length : Int)).toNat 0 (List.replicate ((e0.length : Int)).toNat (D.ag [D.lit (.string (bytes [])),
 D.lit (.int .i64 0), D.sl Option.none 2 [] 0, D.lit (.bool false)])) ((e0.length : Int)).toNat N) : ACalls prog 14 [.sl 4] [PV.sv a0 4 e0 c0] N Q :=
  eE (H := H_laws_toParamS) (by kernel_rfl) (by kernel_rfl) h
theorem w_laws_eqParam (N : Nat) (x0 x1 : D) (Q : QT [.bool]) (h :
Bel N x0 → Bel N x1 → ∃ s, (x0.cell 0) = D.lit (.string s) ∧ ∃ s_1, (x1.cell 0) = D.lit (.string s_1) ∧ Br (!(ByteArray.toList s == ByteArray.toList s_1)) (∀ N1,
 N ≤ N1 → Q false N1) (∀ N2, N ≤ N2 → ACalls prog 51 [.bool] [.dg 2 (D.sub x0 1 2), .dg 2 (D.sub x1 1 2)] N2 (fun b N3 => N2 ≤ N3 → Br (!b) (∀ N4, N3 ≤
 N4 → Q false N4) (∃ b_1 : Bool, (x0.cell 3) = D.lit (.bool b_1) ∧ ∃ b_2 : Bool, (x1.cell 3) = D.lit (.bool b_2) ∧ Br (!(b_1 == b_2)) (∀ N5, N3 ≤ N5 → Q false
 N5) (∀ N6, N3 ≤ N6 → Q true N6))))) : ACalls prog 50 [.bool] [PV.dg 4 x0, PV.dg 4 x1] N Q :=
  eE (H := H_laws_eqParam) (by kernel_rfl) (by kernel_rfl) h
theorem w_laws_eqParamS (N : Nat) (a0 : Option Addr) (e0 : List D) (c0 : Nat) (a1 : Option Addr) (e1 : List D) (c1 : Nat) (Q : QT [.bool]) (h :
Bel N (D.sl a0 4 e0 c0) → Bel N (D.sl a1 4 e1 c1) → Br (bne (e0.length : Int) (e1.length : Int)) (∀ N1, N ≤ N1 → Q false N1) (L_laws_eqParamS_4 Q N a0 e0 c0 a1
 e1 c1 0 N)) : ACalls prog 17 [.bool] [PV.sv a0 4 e0 c0, PV.sv a1 4 e1 c1] N Q :=
  eE (H := H_laws_eqParamS) (by kernel_rfl) (by kernel_rfl) h
theorem w_laws_markParamS (N : Nat) (a0 : Option Addr) (e0 : List D) (c0 : Nat) (n1 : Int) (Q : QT [.int .i64]) (h :
Bel N (D.sl a0 4 e0 c0) → L_laws_markParamS_2 Q N a0 e0 c0 n1 0 N) : ACalls prog 22 [.int .i64] [PV.sv a0 4 e0 c0, PV.int .i64 n1] N Q :=
  eE (H := H_laws_markParamS) (by kernel_rfl) (by kernel_rfl) h
theorem m_laws_markParamS (N : Nat) (ad : Addr) (e0 : List D) (c0 : Nat) (n1 : Int) (R : D → Int → Nat → Prop) (QM : Int → D → Nat → Prop) (htree : Tree (.sl (some ad) 4 e0 c0)) (hne : e0 ≠ []) (hlen : e0.length ≤ maxLen) (h : ∀ t : Nat,
L_laws_markParamS_2_v1 (D.foot (D.sl (Option.some ad) 4 e0 c0)) (Addr.block ad) QM N e0.length c0 n1 0 t e0 e0.length N)
    (hQ : ∀ k x N, QM k x N → ∃ es, x = .ag es ∧ es.length = e0.length ∧ footL es = footL e0 ∧ R (.sl (some ad) 4 es c0) k N) : MC prog 22 (.sl (some ad) 4 e0 c0) n1 N R :=
  mcsE (sh := sh) (H := H_laws_markParamS) (fuel := 400) (by kernel_rfl) (by kernel_rfl) (fun t => by kernel_rfl) htree hne hlen h hQ
theorem l_laws_szParamS_5 (Q : QT [.int .i64]) (N0 : Nat) (a0 : Option Addr) (e0 : List D) (c0 : Nat) (n1 n5 : Int) (N : Nat) (h :
Br (decide (n5 < (e0.length : Int))) ((0 ≤ n5 ∧ n5 < (e0.length : Int)) ∧ ∀ N1, N ≤ N1 → ACalls prog 42 [.int .i64] [.dg 4 (List.getD e0 n5.toNat default), .int
 .i64 n1] N1 (fun n N2 => N1 ≤ N2 → Br (decide (n < 0)) (∀ N3, N2 ≤ N3 → Q (-1) N3) (L_laws_szParamS_5 Q N0 a0 e0 c0 n (IntKind.i64.wrap (n5 + 1)) N2)))
 (∀ N4, N ≤ N4 → Q n1 N4)) : L_laws_szParamS_5 Q N0 a0 e0 c0 n1 n5 N :=
  hE (H := H_laws_szParamS) (by kernel_rfl) h
theorem l_laws_toParamS_3 (Q : QT [.sl 4]) (N0 : Nat) (a0 : Option Addr) (e0 : List D) (c0 m3 c3 : Nat) (n4 : Int) (r0 : List D) (q0 : Nat) (N : Nat) (h :
Br (decide (n4 < (e0.length : Int))) ((0 ≤ n4 ∧ n4 < (e0.length : Int)) ∧ ∀ N1, N ≤ N1 → ACalls prog 46 [.ag 4] [.dg 4 (List.getD e0 n4.toNat default)] N1 (fun
 x N2 => N1 ≤ N2 → Bel N2 x → (0 ≤ n4 ∧ n4 < (m3 : Int) ∧ (0 + n4.toNat : Nat) < r0.length) ∧ (0 + n4.toNat : Nat) < r0.length ∧ L_laws_toParamS_3 Q N0 a0 e0
 c0 m3 c3 (IntKind.i64.wrap (n4 + 1)) (List.set r0 (0 + n4.toNat : Nat) x) q0 N2)) ((m3 = r0.length ∧ c3 = q0) ∧ (m3 = r0.length ∧ c3 = q0) ∧ (m3 = r0.length ∧ c3
 = q0) ∧ ∀ a N3, N ≤ N3 → Fresh N0 N3 a [D.ag r0] → ∀ N4, N3 ≤ N4 → Q a r0 q0 N4)) : L_laws_toParamS_3 Q N0 a0 e0 c0 m3 c3 n4 r0 q0 N :=
  hE (H := H_laws_toParamS) (by kernel_rfl) h
theorem l_laws_eqParamS_4 (Q : QT [.bool]) (N0 : Nat) (a0 : Option Addr) (e0 : List D) (c0 : Nat) (a1 : Option Addr) (e1 : List D) (c1 : Nat) (n5 : Int) (N : Nat) (h :
Br (decide (n5 < (e0.length : Int))) ((0 ≤ n5 ∧ n5 < (e0.length : Int)) ∧ (0 ≤ n5 ∧ n5 < (e1.length : Int)) ∧ ∀ N1, N ≤ N1 → ACalls prog 50 [.bool] [.dg 4 (List.getD
 e0 n5.toNat default), .dg 4 (List.getD e1 n5.toNat default)] N1 (fun b N2 => N1 ≤ N2 → Br (!b) (∀ N3, N2 ≤ N3 → Q false N3) (L_laws_eqParamS_4 Q N0 a0 e0
 c0 a1 e1 c1 (IntKind.i64.wrap (n5 + 1)) N2))) (∀ N4, N ≤ N4 → Q true N4)) : L_laws_eqParamS_4 Q N0 a0 e0 c0 a1 e1 c1 n5 N :=
  hE (H := H_laws_eqParamS) (by kernel_rfl) h
theorem l_laws_markParamS_2 (Q : QT [.int .i64]) (N0 : Nat) (a0 : Option Addr) (e0 : List D) (c0 : Nat) (n1 n5 : Int) (N : Nat) (h :
Br (decide (n5 < (e0.length : Int))) (∀ N1, N ≤ N1 → ACalls prog 59 [.str] [.int .i64 n1] N1 (fun s N2 => N1 ≤ N2 → (0 ≤ n5 ∧ n5 < (e0.length : Int)) ∧ False))
 (∀ N3, N ≤ N3 → Q n1 N3)) : L_laws_markParamS_2 Q N0 a0 e0 c0 n1 n5 N :=
  hE (H := H_laws_markParamS) (by kernel_rfl) h
theorem l_laws_markParamS_2_v1 (T : List Nat) (b0 : Nat) (QM : Int → D → Nat → Prop) (N0 : Nat) (m0 c0 : Nat) (n1 n5 : Int) (t0 : Nat) (r0 : List D) (q0 : Nat) (N : Nat) (h :
Br (decide (n5 < (m0 : Int))) (∀ N1, N ≤ N1 → ACalls prog 59 [.str] [.int .i64 n1] N1 (fun s => let r_1 : List D := (List.set r0 (0 + n5.toNat : Nat) (D.ag (putD
 0 [D.lit (.string s)] (D.cells (List.getD r0 (0 + n5.toNat : Nat) default))))); let r_2 : List D := (List.set r_1 (0 + n5.toNat : Nat) (D.ag (putD 1 [D.lit (.int
 .i64 (IntKind.i64.wrap (n1 + 1)))] (D.cells (List.getD r_1 (0 + n5.toNat : Nat) default))))); fun N2 => N1 ≤ N2 → (0 ≤ n5 ∧ n5 < (m0 : Int) ∧ (0 + n5.toNat :
 Nat) < r0.length) ∧ (0 + n5.toNat : Nat) < r0.length ∧ (0 ≤ n5 ∧ n5 < (m0 : Int) ∧ (0 + n5.toNat : Nat) < r_1.length) ∧ (0 + n5.toNat : Nat) < r_1.length ∧ (0 ≤
 n5 ∧ n5 < (m0 : Int) ∧ (0 + n5.toNat : Nat) < r_2.length) ∧ (0 + n5.toNat : Nat) < r_2.length ∧ ∃ a es, ∃ c : Nat, D.cell (List.getD r_2 (0 + n5.toNat : Nat) default)
 2 = D.sl a 2 es c ∧ Tree (D.sl a 2 es c) ∧ In T (D.sl a 2 es c) ∧ (0 + n5.toNat : Nat) < r_2.length ∧ 2 < (D.cells (List.getD r_2 (0 + n5.toNat : Nat) default)).length
 ∧ D.cell (List.getD r_2 (0 + n5.toNat : Nat) default) 2 = D.sl a 2 es c ∧ Once r_2 ∧ Dis (D.sl a 2 es c) [] ∧ ∀ N3, N2 ≤ N3 → MC prog 60 (D.sl a 2 es c) (IntKind.i64.wrap
 (IntKind.i64.wrap (n1 + 1) + 1)) N3 (fun x => let r_3 : List D := (List.set r_2 (0 + n5.toNat : Nat) (D.ag (putD 2 [x] (D.cells (List.getD r_2 (0 + n5.toNat : Nat)
 default))))); fun n N4 => N3 ≤ N4 → (3 : Int) ≠ (0 : Int) ∧ (0 ≤ n5 ∧ n5 < (m0 : Int) ∧ (0 + n5.toNat : Nat) < r_3.length) ∧ (0 + n5.toNat : Nat) < r_3.length
 ∧ L_laws_markParamS_2_v1 T b0 QM N0 m0 c0 (IntKind.i64.wrap (n + 1)) (IntKind.i64.wrap (n5 + 1)) t0 (List.set r_3 (0 + n5.toNat : Nat) (D.ag (putD 3 [D.lit (.bool
 (Int.tmod n 3 == 0))] (D.cells (List.getD r_3 (0 + n5.toNat : Nat) default))))) q0 N4))) (b0 = b0 ∧ ∀ N5, N ≤ N5 → QM n1 (D.ag r0) N5)) : L_laws_markParamS_2_v1 T b0 QM N0 m0 c0 n1 n5 t0 r0 q0 N :=
  hE (H := H_laws_markParamS) (by kernel_rfl) h

end Go.Proofs.YthfoibejlpfhpaaGreat

/- Printed by gen.py: what the functions come to. -/
set_option linter.unusedVariables false
set_option maxRecDepth 100000
namespace Go.Proofs.YthfoibejlpfhpaaGreat
open Go Go.Proofs Go.Proofs.Tryz
def H_impl_AreParams : Hint := ⟨[hc 5 [3, 11, 12, 13]], [], [(7, hs 18 [ec 7 [24]])]⟩
def H_impl_BodyType : Hint := ⟨[hc 6 [3, 4, 7, 26, 27, 28] [(7, 111, 4)]], [], [(1, hs 3 [ec 1 [10]]), (2, hs 12 [ec 5 [16]]), (10, hs 7 [ec 2 [42]])]⟩
def H_impl_DepthOf : Hint := ⟨[hc 3 [3, 7, 8, 9]], [], [(5, hs 5 [ec 2 [14]])]⟩
def H_impl_IndexOf : Hint := ⟨[], [], []⟩
def H_impl_IsValidTerm : Hint := ⟨[], [], [(1, hs 13 [ec 1 [3], ec 4 [6], ec 9 [11]])]⟩
def H_impl_SizeOf : Hint := ⟨[hc 3 [3, 7, 8, 9]], [], [(5, hs 5 [ec 2 [14]])]⟩
def H_impl_paramNames : Hint := ⟨[hc 3 [3, 7, 8, 9] [(3, 9, 0)]], [], []⟩
def H_spec_AreParams : Hint := ⟨[hc 3 [0, 3, 4] [(3, 9, 0)]], [], [(5, hs 26 [ec 13 [24]])]⟩
def H_spec_BodyType : Hint := ⟨[], [], [(1, hs 13 [ec 5 [12], ec 10 [17]]), (3, [en 0, en 2, en 7, eh 1, ec 3 [25], en 4, en 5, en 6, eh 8, en 9])]⟩
def H_spec_DepthOf : Hint := ⟨[hc 3 [1, 3, 4]], [], [(5, hs 9 [ec 6 [17]])]⟩
def H_spec_IndexOf : Hint := ⟨[hc 2 [0, 1, 5]], [], []⟩
def H_spec_IsValidTerm : Hint := ⟨[], [], [(1, hs 13 [ec 1 [3], ec 5 [7], ec 10 [12]])]⟩
def H_spec_l15Ctx : Hint := ⟨[hc 3 [0, 3, 4] [(3, 111, 4)]], [], [(5, [en 0, en 1, en 2, en 3, en 4, en 5, en 6, en 7, en 8, en 9, en 10, en 11, en 12, eh 13, eh 14])]⟩
def H_spec_l15Is : Hint := ⟨[hc 2 [1, 3]], [], [(4, hs 7 [ec 5 [15]])]⟩
def H_spec_l5Left : Hint := ⟨[hc 3 [1, 2, 5]], [], [(5, hs 8 [ec 6 [23]])]⟩
def H_impl_allTermsb : Hint := ⟨[], [], [(1, hs 11 [ec 2 [6]])]⟩
def H_slices_ContainsFunc_Termb : Hint := ⟨[], [], []⟩
def H_slices_IndexFunc_Termb : Hint := ⟨[hc 2 [0, 1, 7, 8]], [], [(4, hs 6 [ec 5 [15]])]⟩
def H_impl_allTerms_1b : Hint := ⟨[], [], [(1, hs 5 [ec 2 [4]])]⟩
def L_impl_AreParams_5 (Q : QT [.bool]) (N0 : Nat) (a3 : Option Addr) (e3 : List D) (c3 : Nat) (a11 : Option Addr) (e11 : List D) (c11 : Nat) (n12 n13 : Int) (N : Nat) : Prop := AT prog 96 [.bool] Q N0 .ord (loopAt prog 96 5) ⟨an 3 (.sv a3 0 e3 c3 :: an 7 (.sv a11 4 e11 c11 :: .int .i64 n12 :: .int .i64 n13 :: an 23 [])), [], N, none⟩
def L_impl_BodyType_6 (Q : QT [.ag 2, .bool]) (N0 : Nat) (m7 c7 : Nat) (a26 : Option Addr) (e26 : List D) (c26 : Nat) (n27 n28 : Int) (y0 : D) (n1_0 : Int) (a1_1 : Option Addr) (e1_1 : List D) (c1_1 : Nat) (r2 : List D) (q2 : Nat) (N : Nat) : Prop := AT prog 56 [.ag 2, .bool] Q N0 .ord (loopAt prog 56 6) ⟨an 3 (.pb 0 0 0 0 :: .pb 1 0 0 0 :: an 2 (.sb 2 4 0 m7 c7 :: an 18 (.sv a26 4 e26 c26 :: .int .i64 n27 :: .int .i64 n28 :: an 17 []))), [.vd y0 9, .var [.int .i64 n1_0, .sv a1_1 2 e1_1 c1_1], .arr 111 4 r2 q2], N, none⟩
def L_impl_DepthOf_3 (Q : QT [.int .i64]) (N0 : Nat) (n3 : Int) (a7 : Option Addr) (e7 : List D) (c7 : Nat) (n8 n9 : Int) (N : Nat) : Prop := AT prog 143 [.int .i64] Q N0 .ord (loopAt prog 143 3) ⟨an 3 (.int .i64 n3 :: an 3 (.sv a7 9 e7 c7 :: .int .i64 n8 :: .int .i64 n9 :: an 10 [])), [], N, none⟩
def L_impl_SizeOf_3 (Q : QT [.int .i64]) (N0 : Nat) (n3 : Int) (a7 : Option Addr) (e7 : List D) (c7 : Nat) (n8 n9 : Int) (N : Nat) : Prop := AT prog 80 [.int .i64] Q N0 .ord (loopAt prog 80 3) ⟨an 3 (.int .i64 n3 :: an 3 (.sv a7 9 e7 c7 :: .int .i64 n8 :: .int .i64 n9 :: an 9 [])), [], N, none⟩
def L_impl_paramNames_3 (Q : QT [.sl 0]) (N0 : Nat) (m3 c3 : Nat) (a7 : Option Addr) (e7 : List D) (c7 : Nat) (n8 n9 : Int) (r0 : List D) (q0 : Nat) (N : Nat) : Prop := AT prog 138 [.sl 0] Q N0 .ord (loopAt prog 138 3) ⟨an 3 (.sb 0 0 0 m3 c3 :: an 3 (.sv a7 4 e7 c7 :: .int .i64 n8 :: .int .i64 n9 :: an 10 [])), [.arr 9 0 r0 q0], N, none⟩
def L_spec_AreParams_3 (Q : QT [.bool]) (N0 : Nat) (a0 : Option Addr) (e0 : List D) (c0 m3 c3 : Nat) (n4 : Int) (r0 : List D) (q0 : Nat) (N : Nat) : Prop := AT prog 87 [.bool] Q N0 .ord (loopAt prog 87 3) ⟨.sv a0 4 e0 c0 :: an 2 (.sb 0 0 0 m3 c3 :: .int .i64 n4 :: an 44 []), [.arr 9 0 r0 q0], N, none⟩
def L_spec_DepthOf_3 (Q : QT [.int .i64]) (N0 : Nat) (n3 n4 : Int) (y0 : D) (N : Nat) : Prop := AT prog 132 [.int .i64] Q N0 .ord (loopAt prog 132 3) ⟨an 1 (.pb 0 0 0 0 :: an 1 (.int .i64 n3 :: .int .i64 n4 :: an 17 [])), [.vd y0 9], N, none⟩
def L_spec_IndexOf_2 (Q : QT [.int .i64]) (N0 : Nat) (a0 : Option Addr) (e0 : List D) (c0 : Nat) (s1 : ByteArray) (n5 : Int) (N : Nat) : Prop := AT prog 130 [.int .i64] Q N0 .ord (loopAt prog 130 2) ⟨.sv a0 0 e0 c0 :: .str s1 :: an 3 (.int .i64 n5 :: an 13 []), [], N, none⟩
def L_spec_l15Ctx_3 (Q : QT [.sl 4]) (N0 : Nat) (a0 : Option Addr) (e0 : List D) (c0 m3 c3 : Nat) (n4 : Int) (r0 : List D) (q0 : Nat) (N : Nat) : Prop := AT prog 82 [.sl 4] Q N0 .ord (loopAt prog 82 3) ⟨.sv a0 4 e0 c0 :: an 2 (.sb 0 4 0 m3 c3 :: .int .i64 n4 :: an 22 []), [.arr 111 4 r0 q0], N, none⟩
def L_spec_l15Is_2 (Q : QT [.bool]) (N0 : Nat) (n3 : Int) (y0 : D) (N : Nat) : Prop := AT prog 89 [.bool] Q N0 .ord (loopAt prog 89 2) ⟨an 1 (.pb 0 0 0 0 :: an 1 (.int .i64 n3 :: an 22 [])), [.vd y0 9], N, none⟩
def L_spec_l5Left_3 (Q : QT [.int .i64]) (N0 : Nat) (n1 n5 : Int) (y0 : D) (N : Nat) : Prop := AT prog 131 [.int .i64] Q N0 .ord (loopAt prog 131 3) ⟨an 1 (.int .i64 n1 :: .pb 0 0 0 0 :: an 2 (.int .i64 n5 :: an 21 [])), [.vd y0 9], N, none⟩
def L_slices_IndexFunc_Term_2b (Q : QT [.int .i64]) (N0 : Nat) (a0 : Option Addr) (e0 : List D) (c0 : Nat) (a1_0 : Addr) (n7 n8 : Int) (N : Nat) : Prop := AT prog 171 [.int .i64] Q N0 .ord (loopAt prog 171 2) ⟨.sv a0 9 e0 c0 :: .fn 137 [.pd a1_0 0 (.fn 94 [])] :: an 5 (.int .i64 n7 :: .int .i64 n8 :: an 10 []), [], N, none⟩
theorem w_impl_AreParams (N : Nat) (a0 : Option Addr) (e0 : List D) (c0 : Nat) (Q : QT [.bool]) (h :
Bel N (D.sl a0 4 e0 c0) → Br (decide ((e0.length : Int) > 5)) (∀ N1, N ≤ N1 → Q false N1) (∀ N2, N ≤ N2 → ACalls prog 138 [.sl 0] [.sv a0 4 e0 c0] N2 (fun
 a es c N3 => N2 ≤ N3 → Bel N3 (D.sl a 0 es c) → L_impl_AreParams_5 Q N a es c a0 e0 c0 (e0.length : Int) 0 N3))) : ACalls prog 96 [.bool] [PV.sv a0 4 e0 c0] N Q :=
  eE (H := H_impl_AreParams) (by kernel_rfl) (by kernel_rfl) h
theorem w_impl_BodyType (N : Nat) (a0 : Option Addr) (e0 : List D) (c0 : Nat) (x1 : D) (Q : QT [.ag 2, .bool]) (h :
Bel N (D.sl a0 4 e0 c0) → Bel N x1 → ∀ N1, N ≤ N1 → ACalls prog 93 [.bool] [.dg 9 x1, .fn 94 []] N1 (fun b N2 => N1 ≤ N2 → ∀ N3, N2 ≤ N3 → ACalls prog 96
 [.bool] [.sv a0 4 e0 c0] N3 (fun b_1 N4 => N3 ≤ N4 → Br (!b_1) (∀ N5, N4 ≤ N5 → Q (D.ag [D.lit (.int .i64 0), D.sl Option.none 2 [] 0]) false N5) (∀ N6,
 N4 ≤ N6 → ACalls prog 97 [.bool] [.dg 9 x1] N6 (fun b_2 N7 => N6 ≤ N7 → Br (!b_2) (∀ N8, N7 ≤ N8 → Q (D.ag [D.lit (.int .i64 0), D.sl Option.none 2 [] 0])
 false N8) (Br (!b) (∀ N9, N7 ≤ N9 → Q (D.ag [D.lit (.int .i64 0), D.sl Option.none 2 [] 0]) false N9) (L_impl_BodyType_6 Q N 0 0 a0 e0 c0 (e0.length : Int)
 0 x1 0 Option.none [] 0 [] 0 N7))))))) : ACalls prog 56 [.ag 2, .bool] [PV.sv a0 4 e0 c0, PV.dg 9 x1] N Q :=
  eE (H := H_impl_BodyType) (by kernel_rfl) (by kernel_rfl) h
theorem w_impl_DepthOf (N : Nat) (x0 : D) (Q : QT [.int .i64]) (h :
Bel N x0 → ∃ a es, ∃ c : Nat, (x0.cell 8) = D.sl a 9 es c ∧ L_impl_DepthOf_3 Q N 0 a es c (es.length : Int) 0 N) : ACalls prog 143 [.int .i64] [PV.dg 9 x0] N Q :=
  eE (H := H_impl_DepthOf) (by kernel_rfl) (by kernel_rfl) h
theorem w_impl_IndexOf (N : Nat) (a0 : Option Addr) (e0 : List D) (c0 : Nat) (s1 : ByteArray) (Q : QT [.int .i64]) (h :
Bel N (D.sl a0 0 e0 c0) → ∀ N1, N ≤ N1 → ACalls prog 173 [.int .i64] [.sv a0 0 e0 c0, .str s1] N1 (fun n N2 => N1 ≤ N2 → ∀ N3, N2 ≤ N3 → Q n N3)) : ACalls prog 141 [.int .i64] [PV.sv a0 0 e0 c0, PV.str s1] N Q :=
  eE (H := H_impl_IndexOf) (by kernel_rfl) (by kernel_rfl) h
theorem w_impl_IsValidTerm (N : Nat) (x0 : D) (Q : QT [.bool]) (h :
Bel N x0 → ∀ N1, N ≤ N1 → ACalls prog 142 [.bool] [.dg 9 x0] N1 (fun b N2 => N1 ≤ N2 → Br b (∀ N3, N2 ≤ N3 → ACalls prog 80 [.int .i64] [.dg 9 x0] N3 (fun
 n N4 => N3 ≤ N4 → Br (decide (n ≤ 80)) (∀ N5, N4 ≤ N5 → ACalls prog 143 [.int .i64] [.dg 9 x0] N5 (fun n_1 N6 => N5 ≤ N6 → ∀ N7, N6 ≤ N7 → Q (decide
 (n_1 ≤ 20)) N7)) (∀ N8, N4 ≤ N8 → Q false N8))) (∀ N9, N2 ≤ N9 → Q false N9))) : ACalls prog 97 [.bool] [PV.dg 9 x0] N Q :=
  eE (H := H_impl_IsValidTerm) (by kernel_rfl) (by kernel_rfl) h
theorem w_impl_SizeOf (N : Nat) (x0 : D) (Q : QT [.int .i64]) (h :
Bel N x0 → ∃ a es, ∃ c : Nat, (x0.cell 8) = D.sl a 9 es c ∧ L_impl_SizeOf_3 Q N 1 a es c (es.length : Int) 0 N) : ACalls prog 80 [.int .i64] [PV.dg 9 x0] N Q :=
  eE (H := H_impl_SizeOf) (by kernel_rfl) (by kernel_rfl) h
theorem w_impl_paramNames (N : Nat) (a0 : Option Addr) (e0 : List D) (c0 : Nat) (Q : QT [.sl 0]) (h :
Bel N (D.sl a0 4 e0 c0) → L_impl_paramNames_3 Q N 0 0 a0 e0 c0 (e0.length : Int) 0 [] 0 N) : ACalls prog 138 [.sl 0] [PV.sv a0 4 e0 c0] N Q :=
  eE (H := H_impl_paramNames) (by kernel_rfl) (by kernel_rfl) h
theorem w_spec_AreParams (N : Nat) (a0 : Option Addr) (e0 : List D) (c0 : Nat) (Q : QT [.bool]) (h :
Bel N (D.sl a0 4 e0 c0) → L_spec_AreParams_3 Q N a0 e0 c0 0 0 0 [] 0 N) : ACalls prog 87 [.bool] [PV.sv a0 4 e0 c0] N Q :=
  eE (H := H_spec_AreParams) (by kernel_rfl) (by kernel_rfl) h
theorem w_spec_BodyType (N : Nat) (a0 : Option Addr) (e0 : List D) (c0 : Nat) (x1 : D) (Q : QT [.ag 2, .bool]) (h :
Bel N (D.sl a0 4 e0 c0) → Bel N x1 → ∀ N1, N ≤ N1 → ACalls prog 87 [.bool] [.sv a0 4 e0 c0] N1 (fun b N2 => N1 ≤ N2 → Br (!b) (∀ N3, N2 ≤ N3 → Q (D.ag [D.lit
 (.int .i64 0), D.sl Option.none 2 [] 0]) false N3) (∀ N4, N2 ≤ N4 → ACalls prog 88 [.bool] [.dg 9 x1] N4 (fun b_1 N5 => N4 ≤ N5 → Br (!b_1) (∀ N6, N5 ≤
 N6 → Q (D.ag [D.lit (.int .i64 0), D.sl Option.none 2 [] 0]) false N6) (∀ N7, N5 ≤ N7 → ACalls prog 89 [.bool] [.dg 9 x1] N7 (fun b_2 N8 => N7 ≤ N8 → Br
 (!b_2) (∀ N9, N8 ≤ N9 → Q (D.ag [D.lit (.int .i64 0), D.sl Option.none 2 [] 0]) false N9) (∀ N10, N8 ≤ N10 → ACalls prog 82 [.sl 4] [.sv a0 4 e0 c0] N10
 (fun a es c N11 => N10 ≤ N11 → Bel N11 (D.sl a 4 es c) → ∀ N12, N11 ≤ N12 → ACalls prog 90 [.ag 2, .bool] [.sv a 4 es c, .dg 9 x1, .int .i64 0] N12 (fun
 x b_3 N13 => N12 ≤ N13 → Bel N13 x → ∀ N14, N13 ≤ N14 → Q x b_3 N14))))))))) : ACalls prog 53 [.ag 2, .bool] [PV.sv a0 4 e0 c0, PV.dg 9 x1] N Q :=
  eE (H := H_spec_BodyType) (by kernel_rfl) (by kernel_rfl) h
theorem w_spec_DepthOf (N : Nat) (x0 : D) (Q : QT [.int .i64]) (h :
Bel N x0 → L_spec_DepthOf_3 Q N 0 0 x0 N) : ACalls prog 132 [.int .i64] [PV.dg 9 x0] N Q :=
  eE (H := H_spec_DepthOf) (by kernel_rfl) (by kernel_rfl) h
theorem w_spec_IndexOf (N : Nat) (a0 : Option Addr) (e0 : List D) (c0 : Nat) (s1 : ByteArray) (Q : QT [.int .i64]) (h :
Bel N (D.sl a0 0 e0 c0) → L_spec_IndexOf_2 Q N a0 e0 c0 s1 0 N) : ACalls prog 130 [.int .i64] [PV.sv a0 0 e0 c0, PV.str s1] N Q :=
  eE (H := H_spec_IndexOf) (by kernel_rfl) (by kernel_rfl) h
theorem w_spec_IsValidTerm (N : Nat) (x0 : D) (Q : QT [.bool]) (h :
Bel N x0 → ∀ N1, N ≤ N1 → ACalls prog 131 [.int .i64] [.dg 9 x0, .int .i64 80] N1 (fun n N2 => N1 ≤ N2 → Br (decide (n ≥ 0)) (∀ N3, N2 ≤ N3 → ACalls prog
 132 [.int .i64] [.dg 9 x0] N3 (fun n_1 N4 => N3 ≤ N4 → Br (decide (n_1 ≤ 20)) (∀ N5, N4 ≤ N5 → ACalls prog 133 [.bool] [.dg 9 x0] N5 (fun b N6 => N5 ≤
 N6 → ∀ N7, N6 ≤ N7 → Q b N7)) (∀ N8, N4 ≤ N8 → Q false N8))) (∀ N9, N2 ≤ N9 → Q false N9))) : ACalls prog 88 [.bool] [PV.dg 9 x0] N Q :=
  eE (H := H_spec_IsValidTerm) (by kernel_rfl) (by kernel_rfl) h
theorem w_spec_l15Ctx (N : Nat) (a0 : Option Addr) (e0 : List D) (c0 : Nat) (Q : QT [.sl 4]) (h :
Bel N (D.sl a0 4 e0 c0) → L_spec_l15Ctx_3 Q N a0 e0 c0 0 0 0 [] 0 N) : ACalls prog 82 [.sl 4] [PV.sv a0 4 e0 c0] N Q :=
  eE (H := H_spec_l15Ctx) (by kernel_rfl) (by kernel_rfl) h
theorem w_spec_l15Is (N : Nat) (x0 : D) (Q : QT [.bool]) (h :
Bel N x0 → L_spec_l15Is_2 Q N 0 x0 N) : ACalls prog 89 [.bool] [PV.dg 9 x0] N Q :=
  eE (H := H_spec_l15Is) (by kernel_rfl) (by kernel_rfl) h
theorem w_spec_l5Left (N : Nat) (x0 : D) (n1 : Int) (Q : QT [.int .i64]) (h :
Bel N x0 → L_spec_l5Left_3 Q N (IntKind.i64.wrap (n1 - 1)) 0 x0 N) : ACalls prog 131 [.int .i64] [PV.dg 9 x0, PV.int .i64 n1] N Q :=
  eE (H := H_spec_l5Left) (by kernel_rfl) (by kernel_rfl) h
theorem l_impl_AreParams_5 (Q : QT [.bool]) (N0 : Nat) (a3 : Option Addr) (e3 : List D) (c3 : Nat) (a11 : Option Addr) (e11 : List D) (c11 : Nat) (n12 n13 : Int) (N : Nat) (h :
Br (decide (n13 < n12)) ((0 ≤ n13 ∧ n13 < (e11.length : Int)) ∧ ∃ s, D.cell (List.getD e11 n13.toNat default) 0 = D.lit (.string s) ∧ ∀ N1, N ≤ N1 → ACalls prog
 139 [.bool] [.str s] N1 (fun b N2 => N1 ≤ N2 → Br (!b) (∀ N3, N2 ≤ N3 → Q false N3) (∀ N4, N2 ≤ N4 → ACalls prog 140 [.bool] [.dg 2 (D.sub (List.getD
 e11 n13.toNat default) 1 2)] N4 (fun b_1 N5 => N4 ≤ N5 → Br (!b_1) (∀ N6, N5 ≤ N6 → Q false N6) (∃ s_1, D.cell (List.getD e11 n13.toNat default) 0 = D.lit
 (.string s_1) ∧ ∀ N7, N5 ≤ N7 → ACalls prog 141 [.int .i64] [.sv a3 0 e3 c3, .str s_1] N7 (fun n N8 => N7 ≤ N8 → Br (bne n n13) (∀ N9, N8 ≤ N9 → Q false
 N9) (L_impl_AreParams_5 Q N0 a3 e3 c3 a11 e11 c11 n12 (IntKind.i64.wrap (n13 + 1)) N8))))))) (∀ N10, N ≤ N10 → Q true N10)) : L_impl_AreParams_5 Q N0 a3 e3 c3 a11 e11 c11 n12 n13 N :=
  hE (H := H_impl_AreParams) (by kernel_rfl) h
theorem w_impl_allTerms_i0b (N : Nat) (x0 : D) (Q : QT [.bool]) (h :
Bel N x0 → ∀ N1, N ≤ N1 → ACalls prog 94 [.bool] [.dg 9 x0] N1 (fun b N2 => N1 ≤ N2 → Br b (∃ a es, ∃ c : Nat, (x0.cell 8) = D.sl a 9 es c ∧ ∀ ad, ApA (Option.some
 ad) [D.fn (OfNat.ofNat 94) []] → Off [Option.some ad] (D.sl a 9 es c) → ∀ N3, N2 ≤ N3 → BelA N3 [Option.some ad] → ACalls prog 136 [.bool] [.sv a 9 es c, .fn
 137 [.pd ad 0 (.fn 94 [])]] N3 (fun b_1 N4 => N3 ≤ N4 → ∀ N5, N4 ≤ N5 → Q (!b_1) N5)) (∀ N6, N2 ≤ N6 → Q false N6))) : ACalls prog 93 [.bool] [.dg 9 x0, .fn 94 []] N Q :=
  eE (H := H_impl_allTermsb) (by kernel_rfl) (by kernel_rfl) h
theorem l_impl_BodyType_6 (Q : QT [.ag 2, .bool]) (N0 : Nat) (m7 c7 : Nat) (a26 : Option Addr) (e26 : List D) (c26 : Nat) (n27 n28 : Int) (y0 : D) (n1_0 : Int) (a1_1 : Option Addr) (e1_1 : List D) (c1_1 : Nat) (r2 : List D) (q2 : Nat) (N : Nat) (h :
Br (decide (n28 < n27)) ((0 ≤ n28 ∧ n28 < (e26.length : Int)) ∧ ∃ s, D.cell (List.getD e26 n28.toNat default) 0 = D.lit (.string s) ∧ (m7 = r2.length ∧ c7 = q2)
 ∧ apBound r2 [D.ag [D.lit (.string s), D.cell (D.sub (List.getD e26 n28.toNat default) 1 2) 0, D.cell (D.sub (List.getD e26 n28.toNat default) 1 2) 1, D.lit (.int
 .i64 0)]] 56 ∧ ∀ (c : Nat), L_impl_BodyType_6 Q N0 (r2 ++ [D.ag [D.lit (.string s), D.cell (D.sub (List.getD e26 n28.toNat default) 1 2) 0, D.cell (D.sub (List.getD
 e26 n28.toNat default) 1 2) 1, D.lit (.int .i64 0)]]).length c a26 e26 c26 n27 (IntKind.i64.wrap (n28 + 1)) y0 n1_0 a1_1 e1_1 c1_1 (r2 ++ [D.ag [D.lit (.string s),
 D.cell (D.sub (List.getD e26 n28.toNat default) 1 2) 0, D.cell (D.sub (List.getD e26 n28.toNat default) 1 2) 1, D.lit (.int .i64 0)]]) c N) ((m7 = r2.length ∧ c7
 = q2) ∧ ∀ a, ApA a r2 → Off [a] y0 → ∀ N1, N ≤ N1 → BelA N1 [a] → ACalls prog 98 [.ag 2, .bool] [.sv a 4 r2 c7, .dg 9 y0, .int .i64 0] N1 (fun x b N2 => N1
 ≤ N2 → Off [a] x ∧ (Bel N2 x → ∀ N3, N2 ≤ N3 → Q x b N3)))) : L_impl_BodyType_6 Q N0 m7 c7 a26 e26 c26 n27 n28 y0 n1_0 a1_1 e1_1 c1_1 r2 q2 N :=
  hE (H := H_impl_BodyType) (by kernel_rfl) h
theorem l_impl_DepthOf_3 (Q : QT [.int .i64]) (N0 : Nat) (n3 : Int) (a7 : Option Addr) (e7 : List D) (c7 : Nat) (n8 n9 : Int) (N : Nat) (h :
Br (decide (n9 < n8)) ((0 ≤ n9 ∧ n9 < (e7.length : Int)) ∧ ∀ N1, N ≤ N1 → ACalls prog 143 [.int .i64] [.dg 9 (List.getD e7 n9.toNat default)] N1 (fun n N2 =>
 N1 ≤ N2 → L_impl_DepthOf_3 Q N0 (if n > n3 then n else n3) a7 e7 c7 n8 (IntKind.i64.wrap (n9 + 1)) N2)) (∀ N3, N ≤ N3 → Q (IntKind.i64.wrap (n3 + 1)) N3)) : L_impl_DepthOf_3 Q N0 n3 a7 e7 c7 n8 n9 N :=
  hE (H := H_impl_DepthOf) (by kernel_rfl) h
theorem l_impl_SizeOf_3 (Q : QT [.int .i64]) (N0 : Nat) (n3 : Int) (a7 : Option Addr) (e7 : List D) (c7 : Nat) (n8 n9 : Int) (N : Nat) (h :
Br (decide (n9 < n8)) ((0 ≤ n9 ∧ n9 < (e7.length : Int)) ∧ ∀ N1, N ≤ N1 → ACalls prog 80 [.int .i64] [.dg 9 (List.getD e7 n9.toNat default)] N1 (fun n N2 =>
 N1 ≤ N2 → L_impl_SizeOf_3 Q N0 (IntKind.i64.wrap (n3 + n)) a7 e7 c7 n8 (IntKind.i64.wrap (n9 + 1)) N2)) (∀ N3, N ≤ N3 → Q n3 N3)) : L_impl_SizeOf_3 Q N0 n3 a7 e7 c7 n8 n9 N :=
  hE (H := H_impl_SizeOf) (by kernel_rfl) h
theorem l_impl_paramNames_3 (Q : QT [.sl 0]) (N0 : Nat) (m3 c3 : Nat) (a7 : Option Addr) (e7 : List D) (c7 : Nat) (n8 n9 : Int) (r0 : List D) (q0 : Nat) (N : Nat) (h :
Br (decide (n9 < n8)) ((0 ≤ n9 ∧ n9 < (e7.length : Int)) ∧ ∃ s, D.cell (List.getD e7 n9.toNat default) 0 = D.lit (.string s) ∧ (m3 = r0.length ∧ c3 = q0) ∧ apBound
 r0 [D.lit (.string s)] 16 ∧ ∀ (c : Nat), L_impl_paramNames_3 Q N0 (r0 ++ [D.lit (.string s)]).length c a7 e7 c7 n8 (IntKind.i64.wrap (n9 + 1)) (r0 ++ [D.lit (.string
 s)]) c N) ((m3 = r0.length ∧ c3 = q0) ∧ (m3 = r0.length ∧ c3 = q0) ∧ (m3 = r0.length ∧ c3 = q0) ∧ ∀ a N1, N ≤ N1 → Fresh N0 N1 a [D.ag r0] → ∀ N2, N1 ≤ N2
 → Q a r0 q0 N2)) : L_impl_paramNames_3 Q N0 m3 c3 a7 e7 c7 n8 n9 r0 q0 N :=
  hE (H := H_impl_paramNames) (by kernel_rfl) h
theorem l_spec_AreParams_3 (Q : QT [.bool]) (N0 : Nat) (a0 : Option Addr) (e0 : List D) (c0 m3 c3 : Nat) (n4 : Int) (r0 : List D) (q0 : Nat) (N : Nat) (h :
Br (decide (n4 < (e0.length : Int))) ((0 ≤ n4 ∧ n4 < (e0.length : Int)) ∧ ∃ s, (if 0 = 0 then D.cell (List.getD e0 n4.toNat default) 0 else D.sub (List.getD e0 n4.toNat
 default) 0 0) = D.lit (.string s) ∧ ∀ N1, N ≤ N1 → ACalls prog 128 [.bool] [.str s] N1 (fun b N2 => N1 ≤ N2 → Br (!b) (∀ N3, N2 ≤ N3 → Q false N3) ((0
 ≤ n4 ∧ n4 < (e0.length : Int)) ∧ ∀ N4, N2 ≤ N4 → ACalls prog 129 [.bool] [.dg 2 (if 2 = 0 then D.cell (List.getD e0 n4.toNat default) 1 else D.sub (List.getD
 e0 n4.toNat default) 1 2)] N4 (fun b_1 N5 => N4 ≤ N5 → Br (!b_1) (∀ N6, N5 ≤ N6 → Q false N6) ((0 ≤ n4 ∧ n4 < (e0.length : Int)) ∧ ∃ s_1, (if 0 = 0 then
 D.cell (List.getD e0 n4.toNat default) 0 else D.sub (List.getD e0 n4.toNat default) 0 0) = D.lit (.string s_1) ∧ (m3 = r0.length ∧ c3 = q0) ∧ ∀ a, ApA a r0 → ∀ N7,
 N5 ≤ N7 → BelA N7 [a] → ACalls prog 130 [.int .i64] [.sv a 0 r0 c3, .str s_1] N7 (fun n N8 => N7 ≤ N8 → Br (decide (n ≥ 0)) (∀ N9, N8 ≤ N9 → Q false N9)
 ((0 ≤ n4 ∧ n4 < (e0.length : Int)) ∧ ∃ s_2, (if 0 = 0 then D.cell (List.getD e0 n4.toNat default) 0 else D.sub (List.getD e0 n4.toNat default) 0 0) = D.lit (.string
 s_2) ∧ (m3 = r0.length ∧ c3 = q0) ∧ apBound r0 [D.lit (.string s_2)] 16 ∧ ∀ (c : Nat), L_spec_AreParams_3 Q N0 a0 e0 c0 (r0 ++ [D.lit (.string s_2)]).length c (IntKind.i64.wrap
 (n4 + 1)) (r0 ++ [D.lit (.string s_2)]) c N8))))))) (∀ N10, N ≤ N10 → Q (decide ((m3 : Int) ≤ 5)) N10)) : L_spec_AreParams_3 Q N0 a0 e0 c0 m3 c3 n4 r0 q0 N :=
  hE (H := H_spec_AreParams) (by kernel_rfl) h
theorem l_spec_DepthOf_3 (Q : QT [.int .i64]) (N0 : Nat) (n3 n4 : Int) (y0 : D) (N : Nat) (h :
∃ a es, ∃ c : Nat, (y0.cell 8) = D.sl a 9 es c ∧ Br (decide (n4 < (es.length : Int))) (∃ a_1 es_1, ∃ c_1 : Nat, (y0.cell 8) = D.sl a_1 9 es_1 c_1 ∧ (0 ≤ n4 ∧ n4
 < (es_1.length : Int)) ∧ ∀ N1, N ≤ N1 → ACalls prog 132 [.int .i64] [.dg 9 (List.getD es_1 n4.toNat default)] N1 (fun n N2 => N1 ≤ N2 → ∀ N3, N2 ≤ N3 →
 ACalls prog 159 [.int .i64] [.int .i64 n3, .int .i64 n] N3 (fun n_1 N4 => N3 ≤ N4 → L_spec_DepthOf_3 Q N0 n_1 (IntKind.i64.wrap (n4 + 1)) y0 N4))) (∀ N5, N
 ≤ N5 → Q (IntKind.i64.wrap (n3 + 1)) N5)) : L_spec_DepthOf_3 Q N0 n3 n4 y0 N :=
  hE (H := H_spec_DepthOf) (by kernel_rfl) h
theorem l_spec_IndexOf_2 (Q : QT [.int .i64]) (N0 : Nat) (a0 : Option Addr) (e0 : List D) (c0 : Nat) (s1 : ByteArray) (n5 : Int) (N : Nat) (h :
Br (decide (n5 < (e0.length : Int))) ((0 ≤ n5 ∧ n5 < (e0.length : Int)) ∧ ∃ s, List.getD e0 n5.toNat default = D.lit (.string s) ∧ Br (ByteArray.toList s == ByteArray.toList
 s1) (∀ N1, N ≤ N1 → Q n5 N1) (L_spec_IndexOf_2 Q N0 a0 e0 c0 s1 (IntKind.i64.wrap (n5 + 1)) N)) (∀ N2, N ≤ N2 → Q (-1) N2)) : L_spec_IndexOf_2 Q N0 a0 e0 c0 s1 n5 N :=
  hE (H := H_spec_IndexOf) (by kernel_rfl) h
theorem l_spec_l15Ctx_3 (Q : QT [.sl 4]) (N0 : Nat) (a0 : Option Addr) (e0 : List D) (c0 m3 c3 : Nat) (n4 : Int) (r0 : List D) (q0 : Nat) (N : Nat) (h :
Br (decide (n4 < (e0.length : Int))) ((0 ≤ n4 ∧ n4 < (e0.length : Int)) ∧ ∃ s, (if 0 = 0 then D.cell (List.getD e0 n4.toNat default) 0 else D.sub (List.getD e0 n4.toNat
 default) 0 0) = D.lit (.string s) ∧ (0 ≤ n4 ∧ n4 < (e0.length : Int)) ∧ (m3 = r0.length ∧ c3 = q0) ∧ apBound r0 [D.ag [D.lit (.string s), D.cell (if 2 = 0 then D.cell
 (List.getD e0 n4.toNat default) 1 else D.sub (List.getD e0 n4.toNat default) 1 2) 0, D.cell (if 2 = 0 then D.cell (List.getD e0 n4.toNat default) 1 else D.sub (List.getD
 e0 n4.toNat default) 1 2) 1, D.lit (.int .i64 0)]] 56 ∧ ∀ (c : Nat), L_spec_l15Ctx_3 Q N0 a0 e0 c0 (r0 ++ [D.ag [D.lit (.string s), D.cell (if 2 = 0 then D.cell
 (List.getD e0 n4.toNat default) 1 else D.sub (List.getD e0 n4.toNat default) 1 2) 0, D.cell (if 2 = 0 then D.cell (List.getD e0 n4.toNat default) 1 else D.sub (List.getD
 e0 n4.toNat default) 1 2) 1, D.lit (.int .i64 0)]]).length c (IntKind.i64.wrap (n4 + 1)) (r0 ++ [D.ag [D.lit (.string s), D.cell (if 2 = 0 then D.cell (List.getD
 e0 n4.toNat default) 1 else D.sub (List.getD e0 n4.toNat default) 1 2) 0, D.cell (if 2 = 0 then D.cell (List.getD e0 n4.toNat default) 1 else D.sub (List.getD e0
 n4.toNat default) 1 2) 1, D.lit (.int .i64 0)]]) c N) ((m3 = r0.length ∧ c3 = q0) ∧ (m3 = r0.length ∧ c3 = q0) ∧ (m3 = r0.length ∧ c3 = q0) ∧ ∀ a N1, N ≤ N1 →
 Fresh N0 N1 a [D.ag r0] → ∀ N2, N1 ≤ N2 → Q a r0 q0 N2)) : L_spec_l15Ctx_3 Q N0 a0 e0 c0 m3 c3 n4 r0 q0 N :=
  hE (H := H_spec_l15Ctx) (by kernel_rfl) h
theorem l_spec_l15Is_2 (Q : QT [.bool]) (N0 : Nat) (n3 : Int) (y0 : D) (N : Nat) (h :
∃ a es, ∃ c : Nat, (y0.cell 8) = D.sl a 9 es c ∧ Br (decide (n3 < (es.length : Int))) (∃ a_1 es_1, ∃ c_1 : Nat, (y0.cell 8) = D.sl a_1 9 es_1 c_1 ∧ (0 ≤ n3 ∧ n3
 < (es_1.length : Int)) ∧ ∀ N1, N ≤ N1 → ACalls prog 89 [.bool] [.dg 9 (List.getD es_1 n3.toNat default)] N1 (fun b N2 => N1 ≤ N2 → Br (!b) (∀ N3, N2 ≤ N3
 → Q false N3) (L_spec_l15Is_2 Q N0 (IntKind.i64.wrap (n3 + 1)) y0 N2))) (∃ n : Int, (y0.cell 0) = D.lit (.int .i64 n) ∧ ∀ N4, N ≤ N4 → ACalls prog 101 [.bool]
 [.int .i64 n, .int .i64 1, .int .i64 5] N4 (fun b_1 N5 => N4 ≤ N5 → Br b_1 (∀ N6, N5 ≤ N6 → Q true N6) (∃ n_1 : Int, (y0.cell 0) = D.lit (.int .i64 n_1)
 ∧ ∀ N7, N5 ≤ N7 → Q (n_1 == 8) N7)))) : L_spec_l15Is_2 Q N0 n3 y0 N :=
  hE (H := H_spec_l15Is) (by kernel_rfl) h
theorem l_spec_l5Left_3 (Q : QT [.int .i64]) (N0 : Nat) (n1 n5 : Int) (y0 : D) (N : Nat) (h :
∃ a es, ∃ c : Nat, (y0.cell 8) = D.sl a 9 es c ∧ Br (decide (n5 < (es.length : Int))) (Br (decide (n1 ≥ 0)) (∃ a_1 es_1, ∃ c_1 : Nat, (y0.cell 8) = D.sl a_1 9 es_1
 c_1 ∧ (0 ≤ n5 ∧ n5 < (es_1.length : Int)) ∧ ∀ N1, N ≤ N1 → ACalls prog 131 [.int .i64] [.dg 9 (List.getD es_1 n5.toNat default), .int .i64 n1] N1 (fun n N2 =>
 N1 ≤ N2 → L_spec_l5Left_3 Q N0 n (IntKind.i64.wrap (n5 + 1)) y0 N2)) (∀ N3, N ≤ N3 → Q n1 N3)) (∀ N4, N ≤ N4 → Q n1 N4)) : L_spec_l5Left_3 Q N0 n1 n5 y0 N :=
  hE (H := H_spec_l5Left) (by kernel_rfl) h
theorem w_slices_ContainsFunc_Term_i0b (N : Nat) (a0 : Option Addr) (e0 : List D) (c0 : Nat) (a1_0 : Addr) (Q : QT [.bool]) (h :
Bel N (D.sl a0 9 e0 c0) → ∀ N1, N ≤ N1 → ACalls prog 171 [.int .i64] [.sv a0 9 e0 c0, .fn 137 [.pd a1_0 0 (.fn 94 [])]] N1 (fun n N2 => N1 ≤ N2 → ∀ N3, N2
 ≤ N3 → Q (decide (n ≥ 0)) N3)) : ACalls prog 136 [.bool] [.sv a0 9 e0 c0, .fn 137 [.pd a1_0 0 (.fn 94 [])]] N Q :=
  eE (H := H_slices_ContainsFunc_Termb) (by kernel_rfl) (by kernel_rfl) h
theorem w_slices_IndexFunc_Term_i0b (N : Nat) (a0 : Option Addr) (e0 : List D) (c0 : Nat) (a1_0 : Addr) (Q : QT [.int .i64]) (h :
Bel N (D.sl a0 9 e0 c0) → L_slices_IndexFunc_Term_2b Q N a0 e0 c0 a1_0 (e0.length : Int) 0 N) : ACalls prog 171 [.int .i64] [.sv a0 9 e0 c0, .fn 137 [.pd a1_0 0 (.fn 94 [])]] N Q :=
  eE (H := H_slices_IndexFunc_Termb) (by kernel_rfl) (by kernel_rfl) h
theorem l_slices_IndexFunc_Term_2b (Q : QT [.int .i64]) (N0 : Nat) (a0 : Option Addr) (e0 : List D) (c0 : Nat) (a1_0 : Addr) (n7 n8 : Int) (N : Nat) (h :
Br (decide (n8 < n7)) ((0 ≤ n8 ∧ n8 < (e0.length : Int)) ∧ ∀ N1, N ≤ N1 → ACalls prog 137 [.bool] [.dg 9 (List.getD e0 n8.toNat default), .pd a1_0 0 (.fn 94 [])]
 N1 (fun b N2 => N1 ≤ N2 → Br b (∀ N3, N2 ≤ N3 → Q n8 N3) (L_slices_IndexFunc_Term_2b Q N0 a0 e0 c0 a1_0 n7 (IntKind.i64.wrap (n8 + 1)) N2))) (∀ N4, N ≤
 N4 → Q (-1) N4)) : L_slices_IndexFunc_Term_2b Q N0 a0 e0 c0 a1_0 n7 n8 N :=
  hE (H := H_slices_IndexFunc_Termb) (by kernel_rfl) h
theorem w_impl_allTerms_1_i0b (N : Nat) (x0 : D) (a1 : Addr) (Q : QT [.bool]) (h :
Bel N x0 → ∀ N1, N ≤ N1 → ACalls prog 93 [.bool] [.dg 9 x0, .fn 94 []] N1 (fun b N2 => N1 ≤ N2 → ∀ N3, N2 ≤ N3 → Q (!b) N3)) : ACalls prog 137 [.bool] [.dg 9 x0, .pd a1 0 (.fn 94 [])] N Q :=
  eE (H := H_impl_allTerms_1b) (by kernel_rfl) (by kernel_rfl) h

end Go.Proofs.YthfoibejlpfhpaaGreat

/- Printed by gen.py: what the functions come to. -/
set_option linter.unusedVariables false
set_option maxRecDepth 100000
namespace Go.Proofs.YthfoibejlpfhpaaGreat
open Go Go.Proofs Go.Proofs.Tryz
def H_impl_BodyType_1 : Hint := ⟨[], [], []⟩
theorem w_impl_BodyType_1 (N : Nat) (x0 : D) (Q : QT [.bool]) (h :
Bel N x0 → ∃ n : Int, (x0.cell 0) = D.lit (.int .i64 n) ∧ ∀ N1, N ≤ N1 → ACalls prog 95 [.bool] [.int .i64 n, .int .i64 1, .int .i64 5] N1 (fun b N2 => N1 ≤
 N2 → Br b (∀ N3, N2 ≤ N3 → Q true N3) (∃ n_1 : Int, (x0.cell 0) = D.lit (.int .i64 n_1) ∧ ∀ N4, N2 ≤ N4 → Q (n_1 == 8) N4))) : ACalls prog 94 [.bool] [PV.dg 9 x0] N Q :=
  eE (H := H_impl_BodyType_1) (by kernel_rfl) (by kernel_rfl) h

end Go.Proofs.YthfoibejlpfhpaaGreat

/- Printed by gen.py: what the functions come to. -/
set_option linter.unusedVariables false
set_option maxRecDepth 100000
namespace Go.Proofs.YthfoibejlpfhpaaGreat
open Go Go.Proofs Go.Proofs.Tryz
def H_slices_Clone_place_places : Hint := ⟨[], [], []⟩
def H_impl_places_and : Hint := ⟨[], [], [(1, [en 0, en 2, en 3, eh 1, eh 4, en 5])]⟩
def H_impl_times : Hint := ⟨[hc 3 [1, 5, 10, 11, 12]], [], [(7, [en 0, en 1, en 2, en 3, en 4, en 5, eh 6, eh 7])]⟩
def H_impl_places_inside : Hint := ⟨[], [], [(3, [en 0, en 1, en 2, en 3, en 4, en 5, en 6, en 7, ec 8 [22], en 9, eh 10, en 11])]⟩
def H_impl_places_isDynamic : Hint := ⟨[hc 4 [0, 3, 16, 17, 18]], [], [(6, [en 0, en 1, en 2, en 4, ec 3 [24], ec 5 [27]])]⟩
def H_spec_l16Env : Hint := ⟨[hc 3 [0, 3, 4] [(3, 122, 2)]], [], [(5, [en 0, en 1, en 2, en 3, en 4, en 5, en 6, en 7, en 8, en 9, en 10, en 11, en 12, eh 13, eh 14])]⟩
def H_spec_l16With : Hint := ⟨[], [], []⟩
def H_spec_l16Late : Hint := ⟨[hc 4 [1, 2, 5], hc 12 [1, 2, 7]], [], [(6, [en 0, en 1, en 2, en 3, en 4, en 5, en 6, en 7]), (9, hs 7 [ec 5 [37]]), (10, [en 0, en 1, en 2, en 3, en 4, en 5, en 6, en 7, en 8, en 9, eh 10, ec 11 [45], en 12, en 13]), (14, hs 7 [ec 6 [64]])]⟩
def L_impl_times_3 (Q : QT [.sl 3]) (N0 : Nat) (a1 : Option Addr) (e1 : List D) (c1 m5 c5 : Nat) (a10 : Option Addr) (e10 : List D) (c10 : Nat) (n11 n12 : Int) (r0 : List D) (q0 : Nat) (N : Nat) : Prop := AT prog 57 [.sl 3] Q N0 .ord (loopAt prog 57 3) ⟨an 1 (.sv a1 0 e1 c1 :: an 3 (.sb 0 3 0 m5 c5 :: an 4 (.sv a10 4 e10 c10 :: .int .i64 n11 :: .int .i64 n12 :: an 27 []))), [.arr 98 3 r0 q0], N, none⟩
def L_impl_places_isDynamic_4 (Q : QT [.bool]) (N0 : Nat) (a0 : Option Addr) (e0 : List D) (c0 : Nat) (a16 : Option Addr) (e16 : List D) (c16 : Nat) (n17 n18 : Int) (y0 : D) (N : Nat) : Prop := AT prog 99 [.bool] Q N0 .ord (loopAt prog 99 4) ⟨.sv a0 3 e0 c0 :: an 2 (.pb 0 0 0 0 :: an 12 (.sv a16 9 e16 c16 :: .int .i64 n17 :: .int .i64 n18 :: an 11 [])), [.vd y0 9], N, none⟩
def L_spec_l16Env_3 (Q : QT [.sl 2]) (N0 : Nat) (a0 : Option Addr) (e0 : List D) (c0 m3 c3 : Nat) (n4 : Int) (r0 : List D) (q0 : Nat) (N : Nat) : Prop := AT prog 55 [.sl 2] Q N0 .ord (loopAt prog 55 3) ⟨.sv a0 4 e0 c0 :: an 2 (.sb 0 2 0 m3 c3 :: .int .i64 n4 :: an 22 []), [.arr 122 2 r0 q0], N, none⟩
def L_spec_l16Late_4 (Q : QT [.bool]) (N0 : Nat) (a1 : Option Addr) (e1 : List D) (c1 : Nat) (n5 : Int) (y0 : D) (N : Nat) : Prop := AT prog 91 [.bool] Q N0 .ord (loopAt prog 91 4) ⟨an 1 (.sv a1 2 e1 c1 :: .pb 0 0 0 0 :: an 2 (.int .i64 n5 :: an 61 [])), [.vd y0 9], N, none⟩
def L_spec_l16Late_12 (Q : QT [.bool]) (N0 : Nat) (a1 : Option Addr) (e1 : List D) (c1 : Nat) (n7 : Int) (y0 : D) (N : Nat) : Prop := AT prog 91 [.bool] Q N0 .ord (loopAt prog 91 12) ⟨an 1 (.sv a1 2 e1 c1 :: .pb 0 0 0 0 :: an 4 (.int .i64 n7 :: an 59 [])), [.vd y0 9], N, none⟩
def L_impl_times_3_v1 (Q : QT [.sl 3]) (N0 : Nat) (a1 : Option Addr) (e1 : List D) (c1 : Nat) (a5 : Option Addr) (e5 : List D) (c5 : Nat) (a10 : Option Addr) (e10 : List D) (c10 : Nat) (n11 n12 : Int) (N : Nat) : Prop := AT prog 57 [.sl 3] Q N0 .ord (loopAt prog 57 3) ⟨an 1 (.sv a1 0 e1 c1 :: an 3 (.sv a5 3 e5 c5 :: an 4 (.sv a10 4 e10 c10 :: .int .i64 n11 :: .int .i64 n12 :: an 27 []))), [], N, none⟩
theorem w_slices_Clone_place_places (N : Nat) (a0 : Option Addr) (e0 : List D) (c0 : Nat) (Q : QT [.row 98 3]) (h :
Bel N (D.sl a0 3 e0 c0) → Br (Option.isNone a0) (∀ N1, N ≤ N1 → Q [] 0 N1) ((0 = 0 ∧ 0 = 0) ∧ apBound [] e0 32 ∧ ∀ (c : Nat), (([] ++ e0).length = ([] ++ e0).length
 ∧ c = c) ∧ ∀ N2, N ≤ N2 → Q ([] ++ e0) c N2)) : ACalls prog 104 [.row 98 3] [PV.sv a0 3 e0 c0] N Q :=
  eE (H := H_slices_Clone_place_places) (by kernel_rfl) (by kernel_rfl) h
theorem w_impl_places_and (N : Nat) (a0 : Option Addr) (e0 : List D) (c0 : Nat) (x1 : D) (Q : QT [.sl 3]) (h :
Bel N (D.sl a0 3 e0 c0) → Bel N x1 → ∀ N1, N ≤ N1 → ACalls prog 104 [.row (OfNat.ofNat 98) 3] [.sv a0 3 e0 c0] N1 (fun es c N2 => N1 ≤ N2 → Bel N2 (D.ag es)
 → (es.length = es.length ∧ c = c) ∧ apBound es [x1] 32 ∧ ∀ (c_1 : Nat), ((es ++ [x1]).length = (es ++ [x1]).length ∧ c_1 = c_1) ∧ ((es ++ [x1]).length = (es ++ [x1]).length
 ∧ c_1 = c_1) ∧ ∀ a N3, N2 ≤ N3 → Fresh N N3 a [D.ag (es ++ [x1])] → ∀ N4, N3 ≤ N4 → Q a (es ++ [x1]) c_1 N4)) : ACalls prog 66 [.sl 3] [PV.sv a0 3 e0 c0, PV.dg 3 x1] N Q :=
  eE (H := H_impl_places_and) (by kernel_rfl) (by kernel_rfl) h
theorem w_impl_times (N : Nat) (a0 : Option Addr) (e0 : List D) (c0 : Nat) (a1 : Option Addr) (e1 : List D) (c1 : Nat) (Q : QT [.sl 3]) (h :
Bel N (D.sl a0 4 e0 c0) → Bel N (D.sl a1 0 e1 c1) → L_impl_times_3 Q N a1 e1 c1 0 0 a0 e0 c0 (e0.length : Int) 0 [] 0 N) : ACalls prog 57 [.sl 3] [PV.sv a0 4 e0 c0, PV.sv a1 0 e1 c1] N Q :=
  eE (H := H_impl_times) (by kernel_rfl) (by kernel_rfl) h
theorem w_impl_places_inside (N : Nat) (a0 : Option Addr) (e0 : List D) (c0 : Nat) (x1 : D) (n2 : Int) (Q : QT [.sl 3]) (h :
Bel N (D.sl a0 3 e0 c0) → Bel N x1 → ∃ n : Int, (x1.cell 0) = D.lit (.int .i64 n) ∧ Br (bne n 8) (∀ N1, N ≤ N1 → Q a0 e0 c0 N1) (Br (n2 == 0) (∀ N2, N ≤ N2
 → Q a0 e0 c0 N2) (∃ s, (x1.cell 1) = D.lit (.string s) ∧ ∃ a es, ∃ c : Nat, (x1.cell 8) = D.sl a 9 es c ∧ ((0 : Int) ≤ (0 : Int) ∧ 0 < (es.length : Int)) ∧ ∀ N3,
 N ≤ N3 → ACalls prog 99 [.bool] [.sv a0 3 e0 c0, .dg 9 (List.getD es 0 default)] N3 (fun b N4 => N3 ≤ N4 → ∀ N5, N4 ≤ N5 → ACalls prog 66 [.sl 3] [.sv a0
 3 e0 c0, .dg 3 (D.ag [D.lit (.string s), D.lit (.int .i64 0), D.lit (.bool b)])] N5 (fun a_1 es_1 c_1 N6 => N5 ≤ N6 → Bel N6 (D.sl a_1 3 es_1 c_1) → ∀ N7,
 N6 ≤ N7 → Q a_1 es_1 c_1 N7))))) : ACalls prog 100 [.sl 3] [PV.sv a0 3 e0 c0, PV.dg 9 x1, PV.int .i64 n2] N Q :=
  eE (H := H_impl_places_inside) (by kernel_rfl) (by kernel_rfl) h
theorem w_impl_places_isDynamic (N : Nat) (a0 : Option Addr) (e0 : List D) (c0 : Nat) (x1 : D) (Q : QT [.bool]) (h :
Bel N (D.sl a0 3 e0 c0) → Bel N x1 → ∃ n : Int, (x1.cell 0) = D.lit (.int .i64 n) ∧ Br (n == 1) (∃ s, (x1.cell 1) = D.lit (.string s) ∧ ∀ N1, N ≤ N1 → ACalls prog
 105 [.ag 3] [.sv a0 3 e0 c0, .str s] N1 (fun x N2 => N1 ≤ N2 → Bel N2 x → ∃ b : Bool, (x.cell 2) = D.lit (.bool b) ∧ ∀ N3, N2 ≤ N3 → Q b N3)) (∃ a es, ∃
 c : Nat, (x1.cell 8) = D.sl a 9 es c ∧ L_impl_places_isDynamic_4 Q N a0 e0 c0 a es c (es.length : Int) 0 x1 N)) : ACalls prog 99 [.bool] [PV.sv a0 3 e0 c0, PV.dg 9 x1] N Q :=
  eE (H := H_impl_places_isDynamic) (by kernel_rfl) (by kernel_rfl) h
theorem w_spec_l16Env (N : Nat) (a0 : Option Addr) (e0 : List D) (c0 : Nat) (Q : QT [.sl 2]) (h :
Bel N (D.sl a0 4 e0 c0) → L_spec_l16Env_3 Q N a0 e0 c0 0 0 0 [] 0 N) : ACalls prog 55 [.sl 2] [PV.sv a0 4 e0 c0] N Q :=
  eE (H := H_spec_l16Env) (by kernel_rfl) (by kernel_rfl) h
theorem w_spec_l16With (N : Nat) (a0 : Option Addr) (e0 : List D) (c0 : Nat) (s1 : ByteArray) (b2 : Bool) (Q : QT [.sl 2]) (h :
Bel N (D.sl a0 2 e0 c0) → (0 = 0 ∧ 0 = 0) ∧ apBound [] e0 24 ∧ ∀ (c : Nat), (([] ++ e0).length = ([] ++ e0).length ∧ c = c) ∧ apBound ([] ++ e0) [D.ag [D.lit (.string
 s1), D.lit (.bool b2)]] 24 ∧ ∀ (c_1 : Nat), ((([] ++ e0) ++ [D.ag [D.lit (.string s1), D.lit (.bool b2)]]).length = (([] ++ e0) ++ [D.ag [D.lit (.string s1), D.lit
 (.bool b2)]]).length ∧ c_1 = c_1) ∧ ((([] ++ e0) ++ [D.ag [D.lit (.string s1), D.lit (.bool b2)]]).length = (([] ++ e0) ++ [D.ag [D.lit (.string s1), D.lit (.bool
 b2)]]).length ∧ c_1 = c_1) ∧ ∀ a N1, N ≤ N1 → Fresh N N1 a [D.ag (([] ++ e0) ++ [D.ag [D.lit (.string s1), D.lit (.bool b2)]])] → ∀ N2, N1 ≤ N2 → Q a (([]
 ++ e0) ++ [D.ag [D.lit (.string s1), D.lit (.bool b2)]]) c_1 N2) : ACalls prog 92 [.sl 2] [PV.sv a0 2 e0 c0, PV.str s1, PV.bool b2] N Q :=
  eE (H := H_spec_l16With) (by kernel_rfl) (by kernel_rfl) h
theorem w_spec_l16Late (N : Nat) (x0 : D) (a1 : Option Addr) (e1 : List D) (c1 : Nat) (Q : QT [.bool]) (h :
Bel N x0 → Bel N (D.sl a1 2 e1 c1) → ∃ n : Int, (x0.cell 0) = D.lit (.int .i64 n) ∧ Br (n == 1) (L_spec_l16Late_4 Q N a1 e1 c1 (IntKind.i64.wrap ((e1.length : Int)
 - 1)) x0 N) (Br (n == 8) (∃ a es, ∃ c : Nat, (x0.cell 8) = D.sl a 9 es c ∧ ((0 : Int) ≤ (0 : Int) ∧ 0 < (es.length : Int)) ∧ ∀ N1, N ≤ N1 → ACalls prog 91 [.bool]
 [.dg 9 (List.getD es 0 default), .sv a1 2 e1 c1] N1 (fun b N2 => N1 ≤ N2 → Br b (∀ N3, N2 ≤ N3 → Q true N3) (∃ a_1 es_1, ∃ c_1 : Nat, (x0.cell 8) = D.sl
 a_1 9 es_1 c_1 ∧ ((0 : Int) ≤ (1 : Int) ∧ 1 < (es_1.length : Int)) ∧ ∃ s, (x0.cell 1) = D.lit (.string s) ∧ ∀ N4, N2 ≤ N4 → ACalls prog 92 [.sl 2] [.sv a1 2 e1
 c1, .str s, .bool b] N4 (fun a_2 es_2 c_2 N5 => N4 ≤ N5 → Bel N5 (D.sl a_2 2 es_2 c_2) → ∀ N6, N5 ≤ N6 → ACalls prog 91 [.bool] [.dg 9 (List.getD es_1 1
 default), .sv a_2 2 es_2 c_2] N6 (fun b_1 N7 => N6 ≤ N7 → ∀ N8, N7 ≤ N8 → Q b_1 N8))))) (L_spec_l16Late_12 Q N a1 e1 c1 0 x0 N))) : ACalls prog 91 [.bool] [PV.dg 9 x0, PV.sv a1 2 e1 c1] N Q :=
  eE (H := H_spec_l16Late) (by kernel_rfl) (by kernel_rfl) h
theorem l_impl_times_3 (Q : QT [.sl 3]) (N0 : Nat) (a1 : Option Addr) (e1 : List D) (c1 m5 c5 : Nat) (a10 : Option Addr) (e10 : List D) (c10 : Nat) (n11 n12 : Int) (r0 : List D) (q0 : Nat) (N : Nat) (h :
Br (decide (n12 < n11)) ((0 ≤ n12 ∧ n12 < (e10.length : Int)) ∧ ∃ s, D.cell (List.getD e10 n12.toNat default) 0 = D.lit (.string s) ∧ ∃ b : Bool, D.cell (List.getD
 e10 n12.toNat default) 3 = D.lit (.bool b) ∧ ∃ b_1 : Bool, D.cell (List.getD e10 n12.toNat default) 3 = D.lit (.bool b_1) ∧ Br (!b_1) (Br (decide ((e1.length : Int)
 > 0)) (((0 : Int) ≤ (0 : Int) ∧ 0 < (e1.length : Int)) ∧ ∃ n : Int, List.getD e1 0 default = D.lit (.int .i64 n) ∧ ((0 : Int) ≤ (1 : Int) ∧ 1 ≤ (e1.length : Int)
 ∧ (e1.length : Int) ≤ (e1.length : Int)) ∧ (m5 = r0.length ∧ c5 = q0) ∧ ∀ a, ApA a r0 → ∀ N1, N ≤ N1 → BelA N1 [a] → ACalls prog 66 [.sl 3] [.sv a 3 r0 c5, .dg
 3 (D.ag [D.lit (.string s), D.lit (.int .i64 n), D.lit (.bool b)])] N1 (fun a_1 es c N2 => N1 ≤ N2 → Off [a] (D.sl a_1 3 es c) ∧ (Bel N2 (D.sl a_1 3 es c) →
 L_impl_times_3_v1 Q N0 (if (c1 : Int) = 1 then a1 else Option.map (fun x => Addr.add x 1) a1) (List.drop 1 (List.take ((e1.length : Int)).toNat e1)) (c1 - 1 : Nat)
 a_1 es c a10 e10 c10 n11 (IntKind.i64.wrap (n12 + 1)) N2))) ((m5 = r0.length ∧ c5 = q0) ∧ ∀ a_2, ApA a_2 r0 → ∀ N3, N ≤ N3 → BelA N3 [a_2] → ACalls prog 66 [.sl
 3] [.sv a_2 3 r0 c5, .dg 3 (D.ag [D.lit (.string s), D.lit (.int .i64 0), D.lit (.bool b)])] N3 (fun a_3 es_1 c_1 N4 => N3 ≤ N4 → Off [a_2] (D.sl a_3 3 es_1
 c_1) ∧ (Bel N4 (D.sl a_3 3 es_1 c_1) → L_impl_times_3_v1 Q N0 a1 e1 c1 a_3 es_1 c_1 a10 e10 c10 n11 (IntKind.i64.wrap (n12 + 1)) N4)))) ((m5 = r0.length ∧ c5 =
 q0) ∧ ∀ a_4, ApA a_4 r0 → ∀ N5, N ≤ N5 → BelA N5 [a_4] → ACalls prog 66 [.sl 3] [.sv a_4 3 r0 c5, .dg 3 (D.ag [D.lit (.string s), D.lit (.int .i64 0), D.lit (.bool
 b)])] N5 (fun a_5 es_2 c_2 N6 => N5 ≤ N6 → Off [a_4] (D.sl a_5 3 es_2 c_2) ∧ (Bel N6 (D.sl a_5 3 es_2 c_2) → L_impl_times_3_v1 Q N0 a1 e1 c1 a_5 es_2 c_2 a10
 e10 c10 n11 (IntKind.i64.wrap (n12 + 1)) N6)))) ((m5 = r0.length ∧ c5 = q0) ∧ (m5 = r0.length ∧ c5 = q0) ∧ (m5 = r0.length ∧ c5 = q0) ∧ ∀ a_6 N7, N ≤ N7 → Fresh
 N0 N7 a_6 [D.ag r0] → ∀ N8, N7 ≤ N8 → Q a_6 r0 q0 N8)) : L_impl_times_3 Q N0 a1 e1 c1 m5 c5 a10 e10 c10 n11 n12 r0 q0 N :=
  hE (H := H_impl_times) (by kernel_rfl) h
theorem l_impl_places_isDynamic_4 (Q : QT [.bool]) (N0 : Nat) (a0 : Option Addr) (e0 : List D) (c0 : Nat) (a16 : Option Addr) (e16 : List D) (c16 : Nat) (n17 n18 : Int) (y0 : D) (N : Nat) (h :
Br (decide (n18 < n17)) ((0 ≤ n18 ∧ n18 < (e16.length : Int)) ∧ ∀ N1, N ≤ N1 → ACalls prog 100 [.sl 3] [.sv a0 3 e0 c0, .dg 9 y0, .int .i64 n18] N1 (fun a es
 c N2 => N1 ≤ N2 → Bel N2 (D.sl a 3 es c) → ∀ N3, N2 ≤ N3 → ACalls prog 99 [.bool] [.sv a 3 es c, .dg 9 (List.getD e16 n18.toNat default)] N3 (fun b N4 =>
 N3 ≤ N4 → Br b (∀ N5, N4 ≤ N5 → Q true N5) (L_impl_places_isDynamic_4 Q N0 a0 e0 c0 a16 e16 c16 n17 (IntKind.i64.wrap (n18 + 1)) y0 N4)))) (∀ N6, N ≤ N6
 → Q false N6)) : L_impl_places_isDynamic_4 Q N0 a0 e0 c0 a16 e16 c16 n17 n18 y0 N :=
  hE (H := H_impl_places_isDynamic) (by kernel_rfl) h
theorem l_spec_l16Env_3 (Q : QT [.sl 2]) (N0 : Nat) (a0 : Option Addr) (e0 : List D) (c0 m3 c3 : Nat) (n4 : Int) (r0 : List D) (q0 : Nat) (N : Nat) (h :
Br (decide (n4 < (e0.length : Int))) ((0 ≤ n4 ∧ n4 < (e0.length : Int)) ∧ ∃ s, (if 0 = 0 then D.cell (List.getD e0 n4.toNat default) 0 else D.sub (List.getD e0 n4.toNat
 default) 0 0) = D.lit (.string s) ∧ (0 ≤ n4 ∧ n4 < (e0.length : Int)) ∧ ∃ b : Bool, (if 0 = 0 then D.cell (List.getD e0 n4.toNat default) 3 else D.sub (List.getD
 e0 n4.toNat default) 3 0) = D.lit (.bool b) ∧ (m3 = r0.length ∧ c3 = q0) ∧ apBound r0 [D.ag [D.lit (.string s), D.lit (.bool b)]] 24 ∧ ∀ (c : Nat), L_spec_l16Env_3
 Q N0 a0 e0 c0 (r0 ++ [D.ag [D.lit (.string s), D.lit (.bool b)]]).length c (IntKind.i64.wrap (n4 + 1)) (r0 ++ [D.ag [D.lit (.string s), D.lit (.bool b)]]) c N) ((m3
 = r0.length ∧ c3 = q0) ∧ (m3 = r0.length ∧ c3 = q0) ∧ (m3 = r0.length ∧ c3 = q0) ∧ ∀ a N1, N ≤ N1 → Fresh N0 N1 a [D.ag r0] → ∀ N2, N1 ≤ N2 → Q a r0 q0 N2) 
 ) : L_spec_l16Env_3 Q N0 a0 e0 c0 m3 c3 n4 r0 q0 N :=
  hE (H := H_spec_l16Env) (by kernel_rfl) h
theorem l_spec_l16Late_4 (Q : QT [.bool]) (N0 : Nat) (a1 : Option Addr) (e1 : List D) (c1 : Nat) (n5 : Int) (y0 : D) (N : Nat) (h :
Br (decide (n5 ≥ 0)) ((0 ≤ n5 ∧ n5 < (e1.length : Int)) ∧ ∃ s, (if 0 = 0 then D.cell (List.getD e1 n5.toNat default) 0 else D.sub (List.getD e1 n5.toNat default)
 0 0) = D.lit (.string s) ∧ ∃ s_1, (y0.cell 1) = D.lit (.string s_1) ∧ Br (ByteArray.toList s == ByteArray.toList s_1) ((0 ≤ n5 ∧ n5 < (e1.length : Int)) ∧ ∃ b :
 Bool, (if 0 = 0 then D.cell (List.getD e1 n5.toNat default) 1 else D.sub (List.getD e1 n5.toNat default) 1 0) = D.lit (.bool b) ∧ ∀ N1, N ≤ N1 → Q b N1) (L_spec_l16Late_4
 Q N0 a1 e1 c1 (IntKind.i64.wrap (n5 - 1)) y0 N)) (L_spec_l16Late_12 Q N0 a1 e1 c1 0 y0 N)) : L_spec_l16Late_4 Q N0 a1 e1 c1 n5 y0 N :=
  hE (H := H_spec_l16Late) (by kernel_rfl) h
theorem l_spec_l16Late_12 (Q : QT [.bool]) (N0 : Nat) (a1 : Option Addr) (e1 : List D) (c1 : Nat) (n7 : Int) (y0 : D) (N : Nat) (h :
∃ a es, ∃ c : Nat, (y0.cell 8) = D.sl a 9 es c ∧ Br (decide (n7 < (es.length : Int))) (∃ a_1 es_1, ∃ c_1 : Nat, (y0.cell 8) = D.sl a_1 9 es_1 c_1 ∧ (0 ≤ n7 ∧ n7
 < (es_1.length : Int)) ∧ ∀ N1, N ≤ N1 → ACalls prog 91 [.bool] [.dg 9 (List.getD es_1 n7.toNat default), .sv a1 2 e1 c1] N1 (fun b N2 => N1 ≤ N2 → Br b (∀
 N3, N2 ≤ N3 → Q true N3) (L_spec_l16Late_12 Q N0 a1 e1 c1 (IntKind.i64.wrap (n7 + 1)) y0 N2))) (∀ N4, N ≤ N4 → Q false N4)) : L_spec_l16Late_12 Q N0 a1 e1 c1 n7 y0 N :=
  hE (H := H_spec_l16Late) (by kernel_rfl) h
theorem l_impl_times_3_v1 (Q : QT [.sl 3]) (N0 : Nat) (a1 : Option Addr) (e1 : List D) (c1 : Nat) (a5 : Option Addr) (e5 : List D) (c5 : Nat) (a10 : Option Addr) (e10 : List D) (c10 : Nat) (n11 n12 : Int) (N : Nat) (h :
Br (decide (n12 < n11)) ((0 ≤ n12 ∧ n12 < (e10.length : Int)) ∧ ∃ s, D.cell (List.getD e10 n12.toNat default) 0 = D.lit (.string s) ∧ ∃ b : Bool, D.cell (List.getD
 e10 n12.toNat default) 3 = D.lit (.bool b) ∧ ∃ b_1 : Bool, D.cell (List.getD e10 n12.toNat default) 3 = D.lit (.bool b_1) ∧ Br (!b_1) (Br (decide ((e1.length : Int)
 > 0)) (((0 : Int) ≤ (0 : Int) ∧ 0 < (e1.length : Int)) ∧ ∃ n : Int, List.getD e1 0 default = D.lit (.int .i64 n) ∧ ((0 : Int) ≤ (1 : Int) ∧ 1 ≤ (e1.length : Int)
 ∧ (e1.length : Int) ≤ (e1.length : Int)) ∧ ∀ N1, N ≤ N1 → ACalls prog 66 [.sl 3] [.sv a5 3 e5 c5, .dg 3 (D.ag [D.lit (.string s), D.lit (.int .i64 n), D.lit (.bool
 b)])] N1 (fun a es c N2 => N1 ≤ N2 → Bel N2 (D.sl a 3 es c) → L_impl_times_3_v1 Q N0 (if (c1 : Int) = 1 then a1 else Option.map (fun x => Addr.add x 1) a1)
 (List.drop 1 (List.take ((e1.length : Int)).toNat e1)) (c1 - 1 : Nat) a es c a10 e10 c10 n11 (IntKind.i64.wrap (n12 + 1)) N2)) (∀ N3, N ≤ N3 → ACalls prog 66
 [.sl 3] [.sv a5 3 e5 c5, .dg 3 (D.ag [D.lit (.string s), D.lit (.int .i64 0), D.lit (.bool b)])] N3 (fun a_1 es_1 c_1 N4 => N3 ≤ N4 → Bel N4 (D.sl a_1 3 es_1
 c_1) → L_impl_times_3_v1 Q N0 a1 e1 c1 a_1 es_1 c_1 a10 e10 c10 n11 (IntKind.i64.wrap (n12 + 1)) N4))) (∀ N5, N ≤ N5 → ACalls prog 66 [.sl 3] [.sv a5 3 e5 c5,
 .dg 3 (D.ag [D.lit (.string s), D.lit (.int .i64 0), D.lit (.bool b)])] N5 (fun a_2 es_2 c_2 N6 => N5 ≤ N6 → Bel N6 (D.sl a_2 3 es_2 c_2) → L_impl_times_3_v1
 Q N0 a1 e1 c1 a_2 es_2 c_2 a10 e10 c10 n11 (IntKind.i64.wrap (n12 + 1)) N6))) (∀ N7, N ≤ N7 → Q a5 e5 c5 N7)) : L_impl_times_3_v1 Q N0 a1 e1 c1 a5 e5 c5 a10 e10 c10 n11 n12 N :=
  hE (H := H_impl_times) (by kernel_rfl) h

end Go.Proofs.YthfoibejlpfhpaaGreat

/- Printed by gen.py: what the functions come to. -/
set_option linter.unusedVariables false
set_option maxRecDepth 100000
namespace Go.Proofs.YthfoibejlpfhpaaGreat
open Go Go.Proofs Go.Proofs.Tryz
def H_spec_l16Times : Hint := ⟨[hc 3 [1, 2, 5, 6] [(5, 4, 0)]], [], [(1, hs 5 [ec 2 [8]]), (7, [en 0, en 1, en 2, en 3, en 4, en 5, en 6, en 7, ec 8 [33], eh 9, en 10]), (8, hs 10 [ec 7 [42]])]⟩
def H_spec_TimesOf : Hint := ⟨[], [], [(1, hs 9 [ec 2 [9]]), (4, [en 0, en 1, eh 2, ec 3 [16], en 4])]⟩
def H_impl_places_all : Hint := ⟨[hc 3 [0, 3, 5, 13, 14, 15] [(5, 4, 0)]], [], [(1, hs 5 [ec 2 [9]]), (5, [en 0, en 1, en 2, en 3, en 5, ec 4 [22], ec 6 [25], eh 7, eh 8])]⟩
def H_impl_TimesOf : Hint := ⟨[], [], [(1, hs 9 [ec 2 [9]]), (4, [en 0, en 2, eh 1, ec 3 [17], en 4])]⟩
def H_laws_eqBoolS : Hint := ⟨[hc 4 [0, 1, 5]], [], [(6, [en 0, en 1, en 2, en 3, en 4, en 5, en 6, en 7, en 8])]⟩
def H_laws_markBoolS : Hint := ⟨[hc 2 [0, 1, 5]], [], []⟩
def H_laws_heldBoolS : Hint := ⟨[hc 2 [0, 1, 5]], [], []⟩
def H_laws_FnExactTimesOf : Hint := ⟨[], [], [(5, hs 4 [ec 2 [19]]), (8, [en 0, en 2, eh 1, ec 3 [26], ec 4 [27], en 5]), (10, hs 4 [ec 1 [31]]), (11, hs 4 [ec 2 [34]]), (16, [en 0, en 1, ec 2 [46], ec 3 [45, 47], en 4]), (19, hs 4 [em 2 none [0, 3, 6, 8, 9, 10]]), (20, hs 4 [em 2 (some 8) [0, 3, 6, 9, 10]]), (24, hs 4 [em 2 none [0, 3, 6, 11] (some 9)]), (31, [en 0, en 2, eh 1, ec 3 [77], ec 4 [78], en 5])]⟩
def L_spec_l16Times_3 (Q : QT [.sl 0]) (N0 : Nat) (a1 : Option Addr) (e1 : List D) (c1 m5 c5 : Nat) (n6 : Int) (y0 : D) (r1 : List D) (q1 : Nat) (N : Nat) : Prop := AT prog 54 [.sl 0] Q N0 .ord (loopAt prog 54 3) ⟨an 1 (.sv a1 2 e1 c1 :: .pb 0 0 0 0 :: an 2 (.sb 1 0 0 m5 c5 :: .int .i64 n6 :: an 40 [])), [.vd y0 9, .arr 4 0 r1 q1], N, none⟩
def L_impl_places_all_3 (Q : QT [.sl 0]) (N0 : Nat) (a0 : Option Addr) (e0 : List D) (c0 m5 c5 : Nat) (a13 : Option Addr) (e13 : List D) (c13 : Nat) (n14 n15 : Int) (y0 : D) (r1 : List D) (q1 : Nat) (N : Nat) : Prop := AT prog 58 [.sl 0] Q N0 .ord (loopAt prog 58 3) ⟨.sv a0 3 e0 c0 :: an 2 (.pb 0 0 0 0 :: an 1 (.sb 1 0 0 m5 c5 :: an 7 (.sv a13 9 e13 c13 :: .int .i64 n14 :: .int .i64 n15 :: an 14 []))), [.vd y0 9, .arr 4 0 r1 q1], N, none⟩
def L_laws_eqBoolS_4 (Q : QT [.bool]) (N0 : Nat) (a0 : Option Addr) (e0 : List D) (c0 : Nat) (a1 : Option Addr) (e1 : List D) (c1 : Nat) (n5 : Int) (N : Nat) : Prop := AT prog 21 [.bool] Q N0 .ord (loopAt prog 21 4) ⟨.sv a0 0 e0 c0 :: .sv a1 0 e1 c1 :: an 3 (.int .i64 n5 :: an 20 []), [], N, none⟩
def L_laws_markBoolS_2 (Q : QT [.int .i64]) (N0 : Nat) (a0 : Option Addr) (e0 : List D) (c0 : Nat) (n1 n5 : Int) (N : Nat) : Prop := AT prog 24 [.int .i64] Q N0 .ord (loopAt prog 24 2) ⟨.sv a0 0 e0 c0 :: .int .i64 n1 :: an 3 (.int .i64 n5 :: an 15 []), [], N, none⟩
def L_laws_markBoolS_2_v1 (T : List Nat) (b0 : Nat) (QM : Int → D → Nat → Prop) (N0 : Nat) (m0 c0 : Nat) (n1 n5 : Int) (t0 : Nat) (r0 : List D) (q0 : Nat) (N : Nat) : Prop := AT prog 24 [] noQ N0 (.mk T (some b0) (0, 0) QM) (loopAt prog 24 2) ⟨.sb 0 0 0 m0 c0 :: .int .i64 n1 :: an 3 (.int .i64 n5 :: an 15 []), [.arr t0 0 r0 q0], N, some ([some b0], T)⟩
def L_laws_heldBoolS_2 (Q : QT [.int .i64]) (N0 : Nat) (a0 : Option Addr) (e0 : List D) (c0 : Nat) (n1 n5 : Int) (N : Nat) : Prop := AT prog 25 [.int .i64] Q N0 .ord (loopAt prog 25 2) ⟨.sv a0 0 e0 c0 :: .int .i64 n1 :: an 3 (.int .i64 n5 :: an 17 []), [], N, none⟩
theorem w_spec_l16Times (N : Nat) (x0 : D) (a1 : Option Addr) (e1 : List D) (c1 : Nat) (Q : QT [.sl 0]) (h :
Bel N x0 → Bel N (D.sl a1 2 e1 c1) → ∀ N1, N ≤ N1 → ACalls prog 91 [.bool] [.dg 9 x0, .sv a1 2 e1 c1] N1 (fun b N2 => N1 ≤ N2 → L_spec_l16Times_3 Q N a1 e1
 c1 1 1 0 x0 [D.lit (.bool b)] 1 N2)) : ACalls prog 54 [.sl 0] [PV.dg 9 x0, PV.sv a1 2 e1 c1] N Q :=
  eE (H := H_spec_l16Times) (by kernel_rfl) (by kernel_rfl) h
theorem w_spec_TimesOf (N : Nat) (a0 : Option Addr) (e0 : List D) (c0 : Nat) (x1 : D) (Q : QT [.sl 0]) (h :
Bel N (D.sl a0 4 e0 c0) → Bel N x1 → ∀ N1, N ≤ N1 → ACalls prog 53 [.ag 2, .bool] [.sv a0 4 e0 c0, .dg 9 x1] N1 (fun x b N2 => N1 ≤ N2 → Bel N2 x → Br (!b)
 ((0 = 0 ∧ 0 = 0) ∧ (0 = 0 ∧ 0 = 0) ∧ ∀ a N3, N2 ≤ N3 → Fresh N N3 a [D.ag []] → ∀ N4, N3 ≤ N4 → Q a [] 0 N4) (∀ N5, N2 ≤ N5 → ACalls prog 55 [.sl 2] [.sv
 a0 4 e0 c0] N5 (fun a_1 es c N6 => N5 ≤ N6 → Bel N6 (D.sl a_1 2 es c) → ∀ N7, N6 ≤ N7 → ACalls prog 54 [.sl 0] [.dg 9 x1, .sv a_1 2 es c] N7 (fun a_2 es_1
 c_1 N8 => N7 ≤ N8 → Bel N8 (D.sl a_2 0 es_1 c_1) → ∀ N9, N8 ≤ N9 → Q a_2 es_1 c_1 N9))))) : ACalls prog 19 [.sl 0] [PV.sv a0 4 e0 c0, PV.dg 9 x1] N Q :=
  eE (H := H_spec_TimesOf) (by kernel_rfl) (by kernel_rfl) h
theorem w_impl_places_all (N : Nat) (a0 : Option Addr) (e0 : List D) (c0 : Nat) (x1 : D) (Q : QT [.sl 0]) (h :
Bel N (D.sl a0 3 e0 c0) → Bel N x1 → ∀ N1, N ≤ N1 → ACalls prog 99 [.bool] [.sv a0 3 e0 c0, .dg 9 x1] N1 (fun b N2 => N1 ≤ N2 → ∃ a es, ∃ c : Nat, (x1.cell
 8) = D.sl a 9 es c ∧ L_impl_places_all_3 Q N a0 e0 c0 1 1 a es c (es.length : Int) 0 x1 [D.lit (.bool b)] 1 N2)) : ACalls prog 58 [.sl 0] [PV.sv a0 3 e0 c0, PV.dg 9 x1] N Q :=
  eE (H := H_impl_places_all) (by kernel_rfl) (by kernel_rfl) h
theorem w_impl_TimesOf (N : Nat) (a0 : Option Addr) (e0 : List D) (c0 : Nat) (x1 : D) (Q : QT [.sl 0]) (h :
Bel N (D.sl a0 4 e0 c0) → Bel N x1 → ∀ N1, N ≤ N1 → ACalls prog 56 [.ag 2, .bool] [.sv a0 4 e0 c0, .dg 9 x1] N1 (fun x b N2 => N1 ≤ N2 → Bel N2 x → Br (!b)
 (∀ N3, N2 ≤ N3 → Q Option.none [] 0 N3) (∀ N4, N2 ≤ N4 → ACalls prog 57 [.sl 3] [.sv a0 4 e0 c0, .sv Option.none 0 [] 0] N4 (fun a es c N5 => N4 ≤ N5
 → Bel N5 (D.sl a 3 es c) → ∀ N6, N5 ≤ N6 → ACalls prog 58 [.sl 0] [.sv a 3 es c, .dg 9 x1] N6 (fun a_1 es_1 c_1 N7 => N6 ≤ N7 → Bel N7 (D.sl a_1 0 es_1
 c_1) → ∀ N8, N7 ≤ N8 → Q a_1 es_1 c_1 N8))))) : ACalls prog 20 [.sl 0] [PV.sv a0 4 e0 c0, PV.dg 9 x1] N Q :=
  eE (H := H_impl_TimesOf) (by kernel_rfl) (by kernel_rfl) h
theorem w_laws_eqBoolS (N : Nat) (a0 : Option Addr) (e0 : List D) (c0 : Nat) (a1 : Option Addr) (e1 : List D) (c1 : Nat) (Q : QT [.bool]) (h :
Bel N (D.sl a0 0 e0 c0) → Bel N (D.sl a1 0 e1 c1) → Br (bne (e0.length : Int) (e1.length : Int)) (∀ N1, N ≤ N1 → Q false N1) (L_laws_eqBoolS_4 Q N a0 e0 c0 a1
 e1 c1 0 N)) : ACalls prog 21 [.bool] [PV.sv a0 0 e0 c0, PV.sv a1 0 e1 c1] N Q :=
  eE (H := H_laws_eqBoolS) (by kernel_rfl) (by kernel_rfl) h
theorem w_laws_markBoolS (N : Nat) (a0 : Option Addr) (e0 : List D) (c0 : Nat) (n1 : Int) (Q : QT [.int .i64]) (h :
Bel N (D.sl a0 0 e0 c0) → L_laws_markBoolS_2 Q N a0 e0 c0 n1 0 N) : ACalls prog 24 [.int .i64] [PV.sv a0 0 e0 c0, PV.int .i64 n1] N Q :=
  eE (H := H_laws_markBoolS) (by kernel_rfl) (by kernel_rfl) h
theorem m_laws_markBoolS (N : Nat) (ad : Addr) (e0 : List D) (c0 : Nat) (n1 : Int) (R : D → Int → Nat → Prop) (QM : Int → D → Nat → Prop) (htree : Tree (.sl (some ad) 0 e0 c0)) (hne : e0 ≠ []) (hlen : e0.length ≤ maxLen) (h : ∀ t : Nat,
L_laws_markBoolS_2_v1 (D.foot (D.sl (Option.some ad) 0 e0 c0)) (Addr.block ad) QM N e0.length c0 n1 0 t e0 e0.length N)
    (hQ : ∀ k x N, QM k x N → ∃ es, x = .ag es ∧ es.length = e0.length ∧ footL es = footL e0 ∧ R (.sl (some ad) 0 es c0) k N) : MC prog 24 (.sl (some ad) 0 e0 c0) n1 N R :=
  mcsE (sh := sh) (H := H_laws_markBoolS) (fuel := 400) (by kernel_rfl) (by kernel_rfl) (fun t => by kernel_rfl) htree hne hlen h hQ
theorem w_laws_heldBoolS (N : Nat) (a0 : Option Addr) (e0 : List D) (c0 : Nat) (n1 : Int) (Q : QT [.int .i64]) (h :
Bel N (D.sl a0 0 e0 c0) → L_laws_heldBoolS_2 Q N a0 e0 c0 n1 0 N) : ACalls prog 25 [.int .i64] [PV.sv a0 0 e0 c0, PV.int .i64 n1] N Q :=
  eE (H := H_laws_heldBoolS) (by kernel_rfl) (by kernel_rfl) h
theorem w_laws_FnExactTimesOf (N : Nat) (a0 : Option Addr) (e0 : List D) (c0 : Nat) (x1 : D) (Q : QT [.bool]) (h :
Bel N (D.sl a0 4 e0 c0) → Bel N x1 → ∀ N1, N ≤ N1 → ACalls prog 11 [.int .i64] [.sv a0 4 e0 c0, .int .i64 1048576] N1 (fun n N2 => N1 ≤ N2 → Br (decide (n
 < 0)) (∀ N3, N2 ≤ N3 → Q true N3) (∀ N4, N2 ≤ N4 → ACalls prog 12 [.int .i64] [.dg 9 x1, .int .i64 n] N4 (fun n_1 N5 => N4 ≤ N5 → Br (decide (n_1 < 0))
 (∀ N6, N5 ≤ N6 → Q true N6) (∀ N7, N5 ≤ N7 → ACalls prog 14 [.sl 4] [.sv a0 4 e0 c0] N7 (fun a es c N8 => N7 ≤ N8 → Bel N8 (D.sl a 4 es c) → ∀ N9, N8
 ≤ N9 → ACalls prog 15 [.ag 9] [.dg 9 x1] N9 (fun x N10 => N9 ≤ N10 → Bel N10 x → ∀ N11, N10 ≤ N11 → ACalls prog 19 [.sl 0] [.sv a 4 es c, .dg 9 x] N11
 (fun a_1 es_1 c_1 N12 => N11 ≤ N12 → Bel N12 (D.sl a_1 0 es_1 c_1) → ∀ N13, N12 ≤ N13 → ACalls prog 14 [.sl 4] [.sv a0 4 e0 c0] N13 (fun a_2 es_2 c_2 N14
 => N13 ≤ N14 → Bel N14 (D.sl a_2 4 es_2 c_2) → ∀ N15, N14 ≤ N15 → ACalls prog 15 [.ag 9] [.dg 9 x1] N15 (fun x_1 N16 => N15 ≤ N16 → Bel N16 x_1 → ∀ N17,
 N16 ≤ N17 → ACalls prog 20 [.sl 0] [.sv a_2 4 es_2 c_2, .dg 9 x_1] N17 (fun a_3 es_3 c_3 N18 => N17 ≤ N18 → Bel N18 (D.sl a_3 0 es_3 c_3) → ∀ N19, N18 ≤
 N19 → ACalls prog 21 [.bool] [.sv a_3 0 es_3 c_3, .sv a_1 0 es_1 c_1] N19 (fun b N20 => N19 ≤ N20 → Br (!b) (∀ N21, N20 ≤ N21 → Q false N21) (∀ N22, N20
 ≤ N22 → ACalls prog 14 [.sl 4] [.sv a0 4 e0 c0] N22 (fun a_4 es_4 c_4 N23 => N22 ≤ N23 → Bel N23 (D.sl a_4 4 es_4 c_4) → ∀ N24, N23 ≤ N24 → ACalls prog
 17 [.bool] [.sv a_2 4 es_2 c_2, .sv a_4 4 es_4 c_4] N24 (fun b_1 N25 => N24 ≤ N25 → Br (!b_1) (∀ N26, N25 ≤ N26 → Q false N26) (∀ N27, N25 ≤ N27 → ACalls
 prog 15 [.ag 9] [.dg 9 x1] N27 (fun x_2 N28 => N27 ≤ N28 → Bel N28 x_2 → ∀ N29, N28 ≤ N29 → ACalls prog 18 [.bool] [.dg 9 x_1, .dg 9 x_2] N29 (fun b_2 N30
 => N29 ≤ N30 → Br (!b_2) (∀ N31, N30 ≤ N31 → Q false N31) (Tree (D.sl a_2 4 es_2 c_2) ∧ Low N (D.sl a_2 4 es_2 c_2) ∧ Dis (D.sl a_2 4 es_2 c_2) [D.sl a0 4
 e0 c0, D.sl a_1 0 es_1 c_1, D.sl a_3 0 es_3 c_3, x1, x_1] ∧ ∀ N32, N30 ≤ N32 → MC prog 22 (D.sl a_2 4 es_2 c_2) 1 N32 (fun x_3 n_2 N33 => N32 ≤ N33 → Tree
 x_1 ∧ Low N x_1 ∧ x_1 = x_1 ∧ Dis x_1 [D.sl a0 4 e0 c0, D.sl a_1 0 es_1 c_1, D.sl a_3 0 es_3 c_3, x1] ∧ ∀ N34, N33 ≤ N34 → MC prog 23 x_1 n_2 N34 (fun x_4 n_3
 N35 => N34 ≤ N35 → Br (decide (n_3 < 0)) (∀ N36, N35 ≤ N36 → Q false N36) (∀ N37, N35 ≤ N37 → ACalls prog 21 [.bool] [.sv a_3 0 es_3 c_3, .sv a_1 0 es_1
 c_1] N37 (fun b_3 N38 => N37 ≤ N38 → Br (!b_3) (∀ N39, N38 ≤ N39 → Q false N39) (Tree (D.sl a_3 0 es_3 c_3) ∧ Low N (D.sl a_3 0 es_3 c_3) ∧ Dis (D.sl a_3
 0 es_3 c_3) [D.sl a0 4 e0 c0, D.sl a_1 0 es_1 c_1, x1, x_4] ∧ D.sl a_3 0 es_3 c_3 = D.sl a_3 0 es_3 c_3 ∧ ∀ N40, N38 ≤ N40 → MC prog 24 (D.sl a_3 0 es_3 c_3)
 1 N40 (fun x_5 n_4 N41 => N40 ≤ N41 → ∀ N42, N41 ≤ N42 → ACalls prog 25 [.int .i64] [.sv a_3 0 (D.elems x_5) c_3, .int .i64 1] N42 (fun n_5 N43 => N42
 ≤ N43 → Br (decide (n_5 < 0)) (∀ N44, N43 ≤ N44 → Q false N44) (Br (bne n_5 n_4) (∀ N45, N43 ≤ N45 → Q false N45) (∀ N46, N43 ≤ N46 → ACalls prog 14
 [.sl 4] [.sv a0 4 e0 c0] N46 (fun a_5 es_5 c_5 N47 => N46 ≤ N47 → Bel N47 (D.sl a_5 4 es_5 c_5) → ∀ N48, N47 ≤ N48 → ACalls prog 15 [.ag 9] [.dg 9 x1] N48
 (fun x_6 N49 => N48 ≤ N49 → Bel N49 x_6 → ∀ N50, N49 ≤ N50 → ACalls prog 20 [.sl 0] [.sv a_5 4 es_5 c_5, .dg 9 x_6] N50 (fun a_6 es_6 c_6 N51 => N50 ≤
 N51 → Bel N51 (D.sl a_6 0 es_6 c_6) → ∀ N52, N51 ≤ N52 → ACalls prog 21 [.bool] [.sv a_6 0 es_6 c_6, .sv a_1 0 es_1 c_1] N52 (fun b_4 N53 => N52 ≤ N53 →
 Br (!b_4) (∀ N54, N53 ≤ N54 → Q false N54) (∀ N55, N53 ≤ N55 → ACalls prog 25 [.int .i64] [.sv a_3 0 (D.elems x_5) c_3, .int .i64 1] N55 (fun n_6 N56 =>
 N55 ≤ N56 → Br (decide (n_6 < 0)) (∀ N57, N56 ≤ N57 → Q false N57) (Br (bne n_6 n_4) (∀ N58, N56 ≤ N58 → Q false N58) (∀ N59, N56 ≤ N59 → Q true N59))))))))))))))))))))))))))))))))))) 
 ) : ACalls prog 4 [.bool] [PV.sv a0 4 e0 c0, PV.dg 9 x1] N Q :=
  eE (H := H_laws_FnExactTimesOf) (by kernel_rfl) (by kernel_rfl) h
theorem l_spec_l16Times_3 (Q : QT [.sl 0]) (N0 : Nat) (a1 : Option Addr) (e1 : List D) (c1 m5 c5 : Nat) (n6 : Int) (y0 : D) (r1 : List D) (q1 : Nat) (N : Nat) (h :
∃ a es, ∃ c : Nat, (y0.cell 8) = D.sl a 9 es c ∧ Br (decide (n6 < (es.length : Int))) (∃ n : Int, (y0.cell 0) = D.lit (.int .i64 n) ∧ Br (n == 8) (Br (n6 == 1) (∃
 s, (y0.cell 1) = D.lit (.string s) ∧ ∃ a_1 es_1, ∃ c_1 : Nat, (y0.cell 8) = D.sl a_1 9 es_1 c_1 ∧ ((0 : Int) ≤ (0 : Int) ∧ 0 < (es_1.length : Int)) ∧ ∀ N1, N ≤
 N1 → ACalls prog 91 [.bool] [.dg 9 (List.getD es_1 0 default), .sv a1 2 e1 c1] N1 (fun b N2 => N1 ≤ N2 → ∀ N3, N2 ≤ N3 → ACalls prog 92 [.sl 2] [.sv a1 2
 e1 c1, .str s, .bool b] N3 (fun a_2 es_2 c_2 N4 => N3 ≤ N4 → Bel N4 (D.sl a_2 2 es_2 c_2) → ∃ a_3 es_3, ∃ c_3 : Nat, (y0.cell 8) = D.sl a_3 9 es_3 c_3 ∧ (0
 ≤ n6 ∧ n6 < (es_3.length : Int)) ∧ ∀ N5, N4 ≤ N5 → ACalls prog 54 [.sl 0] [.dg 9 (List.getD es_3 n6.toNat default), .sv a_2 2 es_2 c_2] N5 (fun a_4 es_4 c_4
 N6 => N5 ≤ N6 → Bel N6 (D.sl a_4 0 es_4 c_4) → (m5 = r1.length ∧ c5 = q1) ∧ apBound r1 es_4 1 ∧ ∀ (c_5 : Nat), L_spec_l16Times_3 Q N0 a1 e1 c1 (r1 ++ es_4).length
 c_5 (IntKind.i64.wrap (n6 + 1)) y0 (r1 ++ es_4) c_5 N6)))) (∃ a_5 es_5, ∃ c_6 : Nat, (y0.cell 8) = D.sl a_5 9 es_5 c_6 ∧ (0 ≤ n6 ∧ n6 < (es_5.length : Int)) ∧ ∀
 N7, N ≤ N7 → ACalls prog 54 [.sl 0] [.dg 9 (List.getD es_5 n6.toNat default), .sv a1 2 e1 c1] N7 (fun a_6 es_6 c_7 N8 => N7 ≤ N8 → Bel N8 (D.sl a_6 0 es_6
 c_7) → (m5 = r1.length ∧ c5 = q1) ∧ apBound r1 es_6 1 ∧ ∀ (c_8 : Nat), L_spec_l16Times_3 Q N0 a1 e1 c1 (r1 ++ es_6).length c_8 (IntKind.i64.wrap (n6 + 1)) y0 (r1
 ++ es_6) c_8 N8))) (∃ a_7 es_7, ∃ c_9 : Nat, (y0.cell 8) = D.sl a_7 9 es_7 c_9 ∧ (0 ≤ n6 ∧ n6 < (es_7.length : Int)) ∧ ∀ N9, N ≤ N9 → ACalls prog 54 [.sl 0] [.dg
 9 (List.getD es_7 n6.toNat default), .sv a1 2 e1 c1] N9 (fun a_8 es_8 c_10 N10 => N9 ≤ N10 → Bel N10 (D.sl a_8 0 es_8 c_10) → (m5 = r1.length ∧ c5 = q1) ∧ apBound
 r1 es_8 1 ∧ ∀ (c_11 : Nat), L_spec_l16Times_3 Q N0 a1 e1 c1 (r1 ++ es_8).length c_11 (IntKind.i64.wrap (n6 + 1)) y0 (r1 ++ es_8) c_11 N10))) ((m5 = r1.length ∧
 c5 = q1) ∧ (m5 = r1.length ∧ c5 = q1) ∧ (m5 = r1.length ∧ c5 = q1) ∧ ∀ a_9 N11, N ≤ N11 → Fresh N0 N11 a_9 [D.ag r1] → ∀ N12, N11 ≤ N12 → Q a_9 r1 q1 N12) 
 ) : L_spec_l16Times_3 Q N0 a1 e1 c1 m5 c5 n6 y0 r1 q1 N :=
  hE (H := H_spec_l16Times) (by kernel_rfl) h
theorem l_impl_places_all_3 (Q : QT [.sl 0]) (N0 : Nat) (a0 : Option Addr) (e0 : List D) (c0 m5 c5 : Nat) (a13 : Option Addr) (e13 : List D) (c13 : Nat) (n14 n15 : Int) (y0 : D) (r1 : List D) (q1 : Nat) (N : Nat) (h :
Br (decide (n15 < n14)) ((0 ≤ n15 ∧ n15 < (e13.length : Int)) ∧ ∀ N1, N ≤ N1 → ACalls prog 100 [.sl 3] [.sv a0 3 e0 c0, .dg 9 y0, .int .i64 n15] N1 (fun a es
 c N2 => N1 ≤ N2 → Bel N2 (D.sl a 3 es c) → ∀ N3, N2 ≤ N3 → ACalls prog 58 [.sl 0] [.sv a 3 es c, .dg 9 (List.getD e13 n15.toNat default)] N3 (fun a_1 es_1
 c_1 N4 => N3 ≤ N4 → Bel N4 (D.sl a_1 0 es_1 c_1) → (m5 = r1.length ∧ c5 = q1) ∧ apBound r1 es_1 1 ∧ ∀ (c_2 : Nat), L_impl_places_all_3 Q N0 a0 e0 c0 (r1 ++ es_1).length
 c_2 a13 e13 c13 n14 (IntKind.i64.wrap (n15 + 1)) y0 (r1 ++ es_1) c_2 N4))) ((m5 = r1.length ∧ c5 = q1) ∧ (m5 = r1.length ∧ c5 = q1) ∧ (m5 = r1.length ∧ c5 = q1)
 ∧ ∀ a_2 N5, N ≤ N5 → Fresh N0 N5 a_2 [D.ag r1] → ∀ N6, N5 ≤ N6 → Q a_2 r1 q1 N6)) : L_impl_places_all_3 Q N0 a0 e0 c0 m5 c5 a13 e13 c13 n14 n15 y0 r1 q1 N :=
  hE (H := H_impl_places_all) (by kernel_rfl) h
theorem l_laws_eqBoolS_4 (Q : QT [.bool]) (N0 : Nat) (a0 : Option Addr) (e0 : List D) (c0 : Nat) (a1 : Option Addr) (e1 : List D) (c1 : Nat) (n5 : Int) (N : Nat) (h :
Br (decide (n5 < (e0.length : Int))) ((0 ≤ n5 ∧ n5 < (e0.length : Int)) ∧ ∃ b : Bool, List.getD e0 n5.toNat default = D.lit (.bool b) ∧ (0 ≤ n5 ∧ n5 < (e1.length
 : Int)) ∧ ∃ b_1 : Bool, List.getD e1 n5.toNat default = D.lit (.bool b_1) ∧ Br (!(b == b_1)) (∀ N1, N ≤ N1 → Q false N1) (L_laws_eqBoolS_4 Q N0 a0 e0 c0 a1 e1
 c1 (IntKind.i64.wrap (n5 + 1)) N)) (∀ N2, N ≤ N2 → Q true N2)) : L_laws_eqBoolS_4 Q N0 a0 e0 c0 a1 e1 c1 n5 N :=
  hE (H := H_laws_eqBoolS) (by kernel_rfl) h
theorem l_laws_markBoolS_2 (Q : QT [.int .i64]) (N0 : Nat) (a0 : Option Addr) (e0 : List D) (c0 : Nat) (n1 n5 : Int) (N : Nat) (h :
Br (decide (n5 < (e0.length : Int))) ((3 : Int) ≠ (0 : Int) ∧ (0 ≤ n5 ∧ n5 < (e0.length : Int)) ∧ False) (∀ N1, N ≤ N1 → Q n1 N1)) : L_laws_markBoolS_2 Q N0 a0 e0 c0 n1 n5 N :=
  hE (H := H_laws_markBoolS) (by kernel_rfl) h
theorem l_laws_markBoolS_2_v1 (T : List Nat) (b0 : Nat) (QM : Int → D → Nat → Prop) (N0 : Nat) (m0 c0 : Nat) (n1 n5 : Int) (t0 : Nat) (r0 : List D) (q0 : Nat) (N : Nat) (h :
Br (decide (n5 < (m0 : Int))) ((3 : Int) ≠ (0 : Int) ∧ (0 ≤ n5 ∧ n5 < (m0 : Int) ∧ (0 + n5.toNat : Nat) < r0.length) ∧ (0 + n5.toNat : Nat) < r0.length ∧ L_laws_markBoolS_2_v1
 T b0 QM N0 m0 c0 (IntKind.i64.wrap (n1 + 1)) (IntKind.i64.wrap (n5 + 1)) t0 (List.set r0 (0 + n5.toNat : Nat) (D.lit (.bool (Int.tmod n1 3 == 0)))) q0 N) (b0 = b0
 ∧ ∀ N1, N ≤ N1 → QM n1 (D.ag r0) N1)) : L_laws_markBoolS_2_v1 T b0 QM N0 m0 c0 n1 n5 t0 r0 q0 N :=
  hE (H := H_laws_markBoolS) (by kernel_rfl) h
theorem l_laws_heldBoolS_2 (Q : QT [.int .i64]) (N0 : Nat) (a0 : Option Addr) (e0 : List D) (c0 : Nat) (n1 n5 : Int) (N : Nat) (h :
Br (decide (n5 < (e0.length : Int))) ((0 ≤ n5 ∧ n5 < (e0.length : Int)) ∧ ∃ b : Bool, List.getD e0 n5.toNat default = D.lit (.bool b) ∧ (3 : Int) ≠ (0 : Int) ∧ Br
 (!(b == (Int.tmod n1 3 == 0))) (∀ N1, N ≤ N1 → Q (-1) N1) (L_laws_heldBoolS_2 Q N0 a0 e0 c0 (IntKind.i64.wrap (n1 + 1)) (IntKind.i64.wrap (n5 + 1)) N)) (∀ N2,
 N ≤ N2 → Q n1 N2)) : L_laws_heldBoolS_2 Q N0 a0 e0 c0 n1 n5 N :=
  hE (H := H_laws_heldBoolS) (by kernel_rfl) h

end Go.Proofs.YthfoibejlpfhpaaGreat
