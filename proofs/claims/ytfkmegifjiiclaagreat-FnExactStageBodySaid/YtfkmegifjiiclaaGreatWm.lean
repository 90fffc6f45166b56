/- Printed by gen.py: what the functions come to. -/
import Derived.Test.YtfkmegifjiiclaaGreatJh
set_option linter.unusedVariables false
set_option maxRecDepth 100000
namespace Go.Proofs.YtfkmegifjiiclaaGreat
open Go Go.Proofs Go.Proofs.Tryz
def H_laws_szParam : Hint := ⟨[], [], [(4, hs 5 [ec 3 [13]])]⟩
def H_laws_szParamS : Hint := ⟨[hc 5 [0, 1, 5]], [], [(7, hs 7 [ec 5 [21]])]⟩
def H_laws_toParam : Hint := ⟨[], [], [(3, hs 5 [ec 2 [8]])]⟩
def H_laws_toParamS : Hint := ⟨[hc 3 [0, 3, 4]], [], [(5, hs 9 [ec 6 [19]])]⟩
def H_laws_eqParam : Hint := ⟨[], [], [(3, hs 6 [ec 4 [11, 13]])]⟩
def H_laws_eqParamS : Hint := ⟨[hc 4 [0, 1, 5]], [], [(6, [en 0, en 1, en 2, en 3, en 4, en 5, en 6, en 7, ec 8 [20, 24], en 9])]⟩
def H_laws_markParamS : Hint := ⟨[hc 2 [0, 1, 5]], [], [(8, hs 9 [em 7 (some 32) [0, 1, 5]])]⟩
def L_laws_szParamS_5 (Q : QT [.int .i64]) (N0 : Nat) (a0 : Option Addr) (e0 : List D) (c0 : Nat) (n1 n5 : Int) (N : Nat) : Prop := AT prog 9 [.int .i64] Q N0 .ord (loopAt prog 9 5) ⟨.sv a0 4 e0 c0 :: .int .i64 n1 :: an 3 (.int .i64 n5 :: an 21 []), [], N, none⟩
def L_laws_toParamS_3 (Q : QT [.sl 4]) (N0 : Nat) (a0 : Option Addr) (e0 : List D) (c0 m3 c3 : Nat) (n4 : Int) (r0 : List D) (q0 : Nat) (N : Nat) : Prop := AT prog 12 [.sl 4] Q N0 .ord (loopAt prog 12 3) ⟨.sv a0 4 e0 c0 :: an 2 (.sb 0 4 0 m3 c3 :: .int .i64 n4 :: an 18 []), [.arr 71 4 r0 q0], N, none⟩
def L_laws_eqParamS_4 (Q : QT [.bool]) (N0 : Nat) (a0 : Option Addr) (e0 : List D) (c0 : Nat) (a1 : Option Addr) (e1 : List D) (c1 : Nat) (n5 : Int) (N : Nat) : Prop := AT prog 16 [.bool] Q N0 .ord (loopAt prog 16 4) ⟨.sv a0 4 e0 c0 :: .sv a1 4 e1 c1 :: an 3 (.int .i64 n5 :: an 21 []), [], N, none⟩
def L_laws_markParamS_2 (Q : QT [.int .i64]) (N0 : Nat) (a0 : Option Addr) (e0 : List D) (c0 : Nat) (n1 n5 : Int) (N : Nat) : Prop := AT prog 17 [.int .i64] Q N0 .ord (loopAt prog 17 2) ⟨.sv a0 4 e0 c0 :: .int .i64 n1 :: an 3 (.int .i64 n5 :: an 40 []), [], N, none⟩
def L_laws_markParamS_2_v1 (T : List Nat) (b0 : Nat) (QM : Int → D → Nat → Prop) (N0 : Nat) (m0 c0 : Nat) (n1 n5 : Int) (t0 : Nat) (r0 : List D) (q0 : Nat) (N : Nat) : Prop := AT prog 17 [] noQ N0 (.mk T (some b0) (4, 0) QM) (loopAt prog 17 2) ⟨.sb 0 4 0 m0 c0 :: .int .i64 n1 :: an 3 (.int .i64 n5 :: an 40 []), [.arr t0 4 r0 q0], N, some ([some b0], T)⟩
theorem w_laws_szParam (N : Nat) (x0 : D) (n1 : Int) (Q : QT [.int .i64]) (h :
Bel N x0 → ∃ s, (x0.cell 0) = D.lit (.string s) ∧ Br (decide (IntKind.i64.wrap (n1 - (s.size : Int)) < 0)) (∀ a, N ≤ a → Q (-1) a) (∀ a, N ≤ a → ACalls
 prog 37 [.int .i64] [.dg 2 (D.sub x0 1 2), .int .i64 (IntKind.i64.wrap (n1 - (s.size : Int)))] a (fun n b => a ≤ b → Br (decide (n < 0)) (∀ a, b ≤ a
 → Q (-1) a) (∀ a, b ≤ a → Q n a)))) : ACalls prog 36 [.int .i64] [PV.dg 4 x0, PV.int .i64 n1] N Q :=
  eE (H := H_laws_szParam) (by kernel_rfl) (by kernel_rfl) h
theorem w_laws_szParamS (N : Nat) (a0 : Option Addr) (e0 : List D) (c0 : Nat) (n1 : Int) (Q : QT [.int .i64]) (h :
Bel N (D.sl a0 4 e0 c0) → Br (decide (IntKind.i64.wrap (n1 - (e0.length : Int)) < 0)) (∀ a, N ≤ a → Q (-1) a) (L_laws_szParamS_5 Q N a0 e0 c0 (IntKind.i64.wrap
 (n1 - (e0.length : Int))) 0 N)) : ACalls prog 9 [.int .i64] [PV.sv a0 4 e0 c0, PV.int .i64 n1] N Q :=
  eE (H := H_laws_szParamS) (by kernel_rfl) (by kernel_rfl) h
theorem w_laws_toParam (N : Nat) (x0 : D) (Q : QT [.ag 4]) (h :
Bel N x0 → ∃ s, (x0.cell 0) = D.lit (.string s) ∧ ∀ a, N ≤ a → ACalls prog 43 [.ag 2] [.dg 2 (D.sub x0 1 2)] a (fun x c => a ≤ c → Bel c x → ∃ b :
 Bool, (x0.cell 3) = D.lit (.bool b) ∧ ∀ a, c ≤ a → Q (D.ag [D.lit (.string s), (x.cell 0), (x.cell 1), D.lit (.bool b)]) a)) : ACalls prog 42 [.ag 4] [PV.dg 4 x0] N Q :=
  eE (H := H_laws_toParam) (by kernel_rfl) (by kernel_rfl) h
theorem w_laws_toParamS (N : Nat) (a0 : Option Addr) (e0 : List D) (c0 : Nat) (Q : QT [.sl 4]) (h :
Bel N (D.sl a0 4 e0 c0) → (0 ≤ (e0.length : Int) ∧ (e0.length : Int) ≤ (e0.length : Int) ∧ (56 * (e0.length : Int)) ≤ 140737488355328 ∧ (e0.length : Int) ≤ 9223372036854775807)
 ∧ L_laws_toParamS_3 Q N a0 e0 c0 ((e0.length : Int)).toNat ((e0.length : Int)).toNat 0 (List.replicate ((e0.length : Int)).toNat (D.ag [D.lit (.string (bytes [])),
 D.lit (.int .i64 0), D.sl Option.none 2 [] 0, D.lit (.bool false)])) ((e0.length : Int)).toNat N) : ACalls prog 12 [.sl 4] [PV.sv a0 4 e0 c0] N Q :=
  eE (H := H_laws_toParamS) (by kernel_rfl) (by kernel_rfl) h
theorem w_laws_eqParam (N : Nat) (x0 x1 : D) (Q : QT [.bool]) (h :
Bel N x0 → Bel N x1 → ∃ s, (x0.cell 0) = D.lit (.string s) ∧ ∃ a, (x1.cell 0) = D.lit (.string a) ∧ Br (!(ByteArray.toList s == ByteArray.toList a)) (∀ a,
 N ≤ a → Q false a) (∀ a, N ≤ a → ACalls prog 48 [.bool] [.dg 2 (D.sub x0 1 2), .dg 2 (D.sub x1 1 2)] a (fun b c => a ≤ c → Br (!b) (∀ a, c ≤
 a → Q false a) (∃ a : Bool, (x0.cell 3) = D.lit (.bool a) ∧ ∃ b : Bool, (x1.cell 3) = D.lit (.bool b) ∧ Br (!(a == b)) (∀ a, c ≤ a → Q false
 a) (∀ a, c ≤ a → Q true a))))) : ACalls prog 49 [.bool] [PV.dg 4 x0, PV.dg 4 x1] N Q :=
  eE (H := H_laws_eqParam) (by kernel_rfl) (by kernel_rfl) h
theorem w_laws_eqParamS (N : Nat) (a0 : Option Addr) (e0 : List D) (c0 : Nat) (a1 : Option Addr) (e1 : List D) (c1 : Nat) (Q : QT [.bool]) (h :
Bel N (D.sl a0 4 e0 c0) → Bel N (D.sl a1 4 e1 c1) → Br (bne (e0.length : Int) (e1.length : Int)) (∀ a, N ≤ a → Q false a) (L_laws_eqParamS_4 Q N a0 e0 c0 a1
 e1 c1 0 N)) : ACalls prog 16 [.bool] [PV.sv a0 4 e0 c0, PV.sv a1 4 e1 c1] N Q :=
  eE (H := H_laws_eqParamS) (by kernel_rfl) (by kernel_rfl) h
theorem w_laws_markParamS (N : Nat) (a0 : Option Addr) (e0 : List D) (c0 : Nat) (n1 : Int) (Q : QT [.int .i64]) (h :
Bel N (D.sl a0 4 e0 c0) → L_laws_markParamS_2 Q N a0 e0 c0 n1 0 N) : ACalls prog 17 [.int .i64] [PV.sv a0 4 e0 c0, PV.int .i64 n1] N Q :=
 eE (H := H_laws_markParamS) (by kernel_rfl) (by kernel_rfl) h
theorem m_laws_markParamS (N : Nat) (ad : Addr) (e0 : List D) (c0 : Nat) (n1 : Int) (R : D → Int → Nat → Prop) (QM : Int → D → Nat → Prop) (htree : Tree (.sl (some ad) 4 e0 c0)) (hne : e0 ≠ []) (hlen : e0.length ≤ maxLen) (h : ∀ t : Nat,
L_laws_markParamS_2_v1 (D.foot (D.sl (Option.some ad) 4 e0 c0)) (Addr.block ad) QM N e0.length c0 n1 0 t e0 e0.length N)
  (hQ : ∀ k x N, QM k x N → ∃ es, x = .ag es ∧ es.length = e0.length ∧ footL es = footL e0 ∧ R (.sl (some ad) 4 es c0) k N) : MC prog 17 (.sl (some ad) 4 e0 c0) n1 N R :=
 mcsE (sh := sh) (H := H_laws_markParamS) (fuel := 400) (by kernel_rfl) (by kernel_rfl) (fun t => by kernel_rfl) htree hne hlen h hQ
theorem l_laws_szParamS_5 (Q : QT [.int .i64]) (N0 : Nat) (a0 : Option Addr) (e0 : List D) (c0 : Nat) (n1 n5 : Int) (N : Nat) (h :
Br (decide (n5 < (e0.length : Int))) ((0 ≤ n5 ∧ n5 < (e0.length : Int)) ∧ ∀ a, N ≤ a → ACalls prog 36 [.int .i64] [.dg 4 (List.getD e0 n5.toNat default), .int
 .i64 n1] a (fun n b => a ≤ b → Br (decide (n < 0)) (∀ a, b ≤ a → Q (-1) a) (L_laws_szParamS_5 Q N0 a0 e0 c0 n (IntKind.i64.wrap (n5 + 1)) b)))
 (∀ a, N ≤ a → Q n1 a)) : L_laws_szParamS_5 Q N0 a0 e0 c0 n1 n5 N :=
  hE (H := H_laws_szParamS) (by kernel_rfl) h
theorem l_laws_toParamS_3 (Q : QT [.sl 4]) (N0 : Nat) (a0 : Option Addr) (e0 : List D) (c0 m3 c3 : Nat) (n4 : Int) (r0 : List D) (q0 : Nat) (N : Nat) (h :
Br (decide (n4 < (e0.length : Int))) ((0 ≤ n4 ∧ n4 < (e0.length : Int)) ∧ ∀ a, N ≤ a → ACalls prog 42 [.ag 4] [.dg 4 (List.getD e0 n4.toNat default)] a (fun
 x b => a ≤ b → Bel b x → (0 ≤ n4 ∧ n4 < (m3 : Int) ∧ (0 + n4.toNat : Nat) < r0.length) ∧ (0 + n4.toNat : Nat) < r0.length ∧ L_laws_toParamS_3 Q N0 a0 e0
 c0 m3 c3 (IntKind.i64.wrap (n4 + 1)) (List.set r0 (0 + n4.toNat : Nat) x) q0 b)) ((m3 = r0.length ∧ c3 = q0) ∧ (m3 = r0.length ∧ c3 = q0) ∧ (m3 = r0.length ∧ c3
 = q0) ∧ ∀ a b, N ≤ b → Fresh N0 b a [D.ag r0] → ∀ c, b ≤ c → Q a r0 q0 c)) : L_laws_toParamS_3 Q N0 a0 e0 c0 m3 c3 n4 r0 q0 N :=
  hE (H := H_laws_toParamS) (by kernel_rfl) h
theorem l_laws_eqParamS_4 (Q : QT [.bool]) (N0 : Nat) (a0 : Option Addr) (e0 : List D) (c0 : Nat) (a1 : Option Addr) (e1 : List D) (c1 : Nat) (n5 : Int) (N : Nat) (h :
Br (decide (n5 < (e0.length : Int))) ((0 ≤ n5 ∧ n5 < (e0.length : Int)) ∧ (0 ≤ n5 ∧ n5 < (e1.length : Int)) ∧ ∀ a, N ≤ a → ACalls prog 49 [.bool] [.dg 4 (List.getD
 e0 n5.toNat default), .dg 4 (List.getD e1 n5.toNat default)] a (fun b c => a ≤ c → Br (!b) (∀ a, c ≤ a → Q false a) (L_laws_eqParamS_4 Q N0 a0 e0
 c0 a1 e1 c1 (IntKind.i64.wrap (n5 + 1)) c))) (∀ a, N ≤ a → Q true a)) : L_laws_eqParamS_4 Q N0 a0 e0 c0 a1 e1 c1 n5 N :=
  hE (H := H_laws_eqParamS) (by kernel_rfl) h
theorem l_laws_markParamS_2 (Q : QT [.int .i64]) (N0 : Nat) (a0 : Option Addr) (e0 : List D) (c0 : Nat) (n1 n5 : Int) (N : Nat) (h :
Br (decide (n5 < (e0.length : Int))) (∀ a, N ≤ a → ACalls prog 50 [.str] [.int .i64 n1] a (fun _ b => a ≤ b → (0 ≤ n5 ∧ n5 < (e0.length : Int)) ∧ False))
 (∀ a, N ≤ a → Q n1 a)) : L_laws_markParamS_2 Q N0 a0 e0 c0 n1 n5 N :=
  hE (H := H_laws_markParamS) (by kernel_rfl) h
theorem l_laws_markParamS_2_v1 (T : List Nat) (b0 : Nat) (QM : Int → D → Nat → Prop) (N0 : Nat) (m0 c0 : Nat) (n1 n5 : Int) (t0 : Nat) (r0 : List D) (q0 : Nat) (N : Nat) (h :
Br (decide (n5 < (m0 : Int))) (∀ b, N ≤ b → ACalls prog 50 [.str] [.int .i64 n1] b (fun s => let d : List D := (List.set r0 (0 + n5.toNat : Nat) (D.ag (putD
 0 [D.lit (.string s)] (D.cells (List.getD r0 (0 + n5.toNat : Nat) default))))); let e : List D := (List.set d (0 + n5.toNat : Nat) (D.ag (putD 1 [D.lit (.int
 .i64 (IntKind.i64.wrap (n1 + 1)))] (D.cells (List.getD d (0 + n5.toNat : Nat) default))))); fun f => b ≤ f → (0 ≤ n5 ∧ n5 < (m0 : Int) ∧ (0 + n5.toNat :
 Nat) < r0.length) ∧ (0 + n5.toNat : Nat) < r0.length ∧ (0 ≤ n5 ∧ n5 < (m0 : Int) ∧ (0 + n5.toNat : Nat) < d.length) ∧ (0 + n5.toNat : Nat) < d.length ∧ (0 ≤
 n5 ∧ n5 < (m0 : Int) ∧ (0 + n5.toNat : Nat) < e.length) ∧ (0 + n5.toNat : Nat) < e.length ∧ ∃ a b, ∃ c : Nat, D.cell (List.getD e (0 + n5.toNat : Nat) default)
 2 = D.sl a 2 b c ∧ Tree (D.sl a 2 b c) ∧ In T (D.sl a 2 b c) ∧ (0 + n5.toNat : Nat) < e.length ∧ 2 < (D.cells (List.getD e (0 + n5.toNat : Nat) default)).length
 ∧ D.cell (List.getD e (0 + n5.toNat : Nat) default) 2 = D.sl a 2 b c ∧ Once e ∧ Dis (D.sl a 2 b c) [] ∧ ∀ d, f ≤ d → MC prog 51 (D.sl a 2 b c) (IntKind.i64.wrap
 (IntKind.i64.wrap (n1 + 1) + 1)) d (fun x => let a : List D := (List.set e (0 + n5.toNat : Nat) (D.ag (putD 2 [x] (D.cells (List.getD e (0 + n5.toNat : Nat)
 default))))); fun n b => d ≤ b → (3 : Int) ≠ (0 : Int) ∧ (0 ≤ n5 ∧ n5 < (m0 : Int) ∧ (0 + n5.toNat : Nat) < a.length) ∧ (0 + n5.toNat : Nat) < a.length
 ∧ L_laws_markParamS_2_v1 T b0 QM N0 m0 c0 (IntKind.i64.wrap (n + 1)) (IntKind.i64.wrap (n5 + 1)) t0 (List.set a (0 + n5.toNat : Nat) (D.ag (putD 3 [D.lit (.bool
 (Int.tmod n 3 == 0))] (D.cells (List.getD a (0 + n5.toNat : Nat) default))))) q0 b))) (b0 = b0 ∧ ∀ a, N ≤ a → QM n1 (D.ag r0) a)) : L_laws_markParamS_2_v1 T b0 QM N0 m0 c0 n1 n5 t0 r0 q0 N :=
  hE (H := H_laws_markParamS) (by kernel_rfl) h

end Go.Proofs.YtfkmegifjiiclaaGreat

/- Printed by gen.py: what the functions come to. -/
set_option linter.unusedVariables false
set_option maxRecDepth 100000
namespace Go.Proofs.YtfkmegifjiiclaaGreat
open Go Go.Proofs Go.Proofs.Tryz
def H_impl_AreParams : Hint := ⟨[hc 5 [3, 11, 12, 13]], [], [(7, hs 18 [ec 7 [24]])]⟩
def H_impl_BodyType : Hint := ⟨[hc 6 [3, 4, 7, 26, 27, 28] [(7, 97, 4)]], [], [(1, hs 3 [ec 1 [10]]), (2, hs 12 [ec 5 [16]]), (10, hs 7 [ec 2 [42]])]⟩
def H_impl_DepthOf : Hint := ⟨[hc 3 [3, 7, 8, 9]], [], [(5, hs 5 [ec 2 [14]])]⟩
def H_impl_IndexOf : Hint := ⟨[], [], []⟩
def H_impl_IsValidTerm : Hint := ⟨[], [], [(1, hs 13 [ec 1 [3], ec 4 [6], ec 9 [11]])]⟩
def H_impl_SizeOf : Hint := ⟨[hc 3 [3, 7, 8, 9]], [], [(5, hs 5 [ec 2 [14]])]⟩
def H_impl_paramNames : Hint := ⟨[hc 3 [3, 7, 8, 9] [(3, 9, 0)]], [], []⟩
def H_spec_AreParams : Hint := ⟨[hc 3 [0, 3, 4] [(3, 9, 0)]], [], [(5, hs 26 [ec 13 [24]])]⟩
def H_spec_BodyType : Hint := ⟨[], [], [(1, hs 13 [ec 5 [12], ec 10 [17]]), (3, [en 0, en 2, en 7, eh 1, ec 3 [25], en 4, en 5, en 6, eh 8, en 9])]⟩
def H_spec_DepthOf : Hint := ⟨[hc 3 [1, 3, 4]], [], [(5, hs 9 [ec 6 [17]])]⟩
def H_spec_IndexOf : Hint := ⟨[hc 2 [0, 1, 5]], [], []⟩
def H_spec_IsValidTerm : Hint := ⟨[], [], [(1, hs 13 [ec 1 [3], ec 5 [7], ec 10 [12]])]⟩
def H_spec_l15Ctx : Hint := ⟨[hc 3 [0, 3, 4] [(3, 97, 4)]], [], [(5, [en 0, en 1, en 2, en 3, en 4, en 5, en 6, en 7, en 8, en 9, en 10, en 11, en 12, eh 13, eh 14])]⟩
def H_spec_l15Is : Hint := ⟨[hc 2 [1, 3]], [], [(4, hs 7 [ec 5 [15]])]⟩
def H_spec_l5Left : Hint := ⟨[hc 3 [1, 2, 5]], [], [(5, hs 8 [ec 6 [23]])]⟩
def H_impl_allTermsb : Hint := ⟨[], [], [(1, hs 11 [ec 2 [6]])]⟩
def H_slices_ContainsFunc_Termb : Hint := ⟨[], [], []⟩
def H_slices_IndexFunc_Termb : Hint := ⟨[hc 2 [0, 1, 7, 8]], [], [(4, hs 6 [ec 5 [15]])]⟩
def H_impl_allTerms_1b : Hint := ⟨[], [], [(1, hs 5 [ec 2 [4]])]⟩
def L_impl_AreParams_5 (Q : QT [.bool]) (N0 : Nat) (a3 : Option Addr) (e3 : List D) (c3 : Nat) (a11 : Option Addr) (e11 : List D) (c11 : Nat) (n12 n13 : Int) (N : Nat) : Prop := AT prog 98 [.bool] Q N0 .ord (loopAt prog 98 5) ⟨an 3 (.sv a3 0 e3 c3 :: an 7 (.sv a11 4 e11 c11 :: .int .i64 n12 :: .int .i64 n13 :: an 23 [])), [], N, none⟩
def L_impl_BodyType_6 (Q : QT [.ag 2, .bool]) (N0 : Nat) (m7 c7 : Nat) (a26 : Option Addr) (e26 : List D) (c26 : Nat) (n27 n28 : Int) (y0 : D) (n1_0 : Int) (a1_1 : Option Addr) (e1_1 : List D) (c1_1 : Nat) (r2 : List D) (q2 : Nat) (N : Nat) : Prop := AT prog 45 [.ag 2, .bool] Q N0 .ord (loopAt prog 45 6) ⟨an 3 (.pb 0 0 0 0 :: .pb 1 0 0 0 :: an 2 (.sb 2 4 0 m7 c7 :: an 18 (.sv a26 4 e26 c26 :: .int .i64 n27 :: .int .i64 n28 :: an 17 []))), [.vd y0 9, .var [.int .i64 n1_0, .sv a1_1 2 e1_1 c1_1], .arr 97 4 r2 q2], N, none⟩
def L_impl_DepthOf_3 (Q : QT [.int .i64]) (N0 : Nat) (n3 : Int) (a7 : Option Addr) (e7 : List D) (c7 : Nat) (n8 n9 : Int) (N : Nat) : Prop := AT prog 147 [.int .i64] Q N0 .ord (loopAt prog 147 3) ⟨an 3 (.int .i64 n3 :: an 3 (.sv a7 9 e7 c7 :: .int .i64 n8 :: .int .i64 n9 :: an 10 [])), [], N, none⟩
def L_impl_SizeOf_3 (Q : QT [.int .i64]) (N0 : Nat) (n3 : Int) (a7 : Option Addr) (e7 : List D) (c7 : Nat) (n8 n9 : Int) (N : Nat) : Prop := AT prog 57 [.int .i64] Q N0 .ord (loopAt prog 57 3) ⟨an 3 (.int .i64 n3 :: an 3 (.sv a7 9 e7 c7 :: .int .i64 n8 :: .int .i64 n9 :: an 9 [])), [], N, none⟩
def L_impl_paramNames_3 (Q : QT [.sl 0]) (N0 : Nat) (m3 c3 : Nat) (a7 : Option Addr) (e7 : List D) (c7 : Nat) (n8 n9 : Int) (r0 : List D) (q0 : Nat) (N : Nat) : Prop := AT prog 77 [.sl 0] Q N0 .ord (loopAt prog 77 3) ⟨an 3 (.sb 0 0 0 m3 c3 :: an 3 (.sv a7 4 e7 c7 :: .int .i64 n8 :: .int .i64 n9 :: an 10 [])), [.arr 9 0 r0 q0], N, none⟩
def L_spec_AreParams_3 (Q : QT [.bool]) (N0 : Nat) (a0 : Option Addr) (e0 : List D) (c0 m3 c3 : Nat) (n4 : Int) (r0 : List D) (q0 : Nat) (N : Nat) : Prop := AT prog 85 [.bool] Q N0 .ord (loopAt prog 85 3) ⟨.sv a0 4 e0 c0 :: an 2 (.sb 0 0 0 m3 c3 :: .int .i64 n4 :: an 44 []), [.arr 9 0 r0 q0], N, none⟩
def L_spec_DepthOf_3 (Q : QT [.int .i64]) (N0 : Nat) (n3 n4 : Int) (y0 : D) (N : Nat) : Prop := AT prog 138 [.int .i64] Q N0 .ord (loopAt prog 138 3) ⟨an 1 (.pb 0 0 0 0 :: an 1 (.int .i64 n3 :: .int .i64 n4 :: an 17 [])), [.vd y0 9], N, none⟩
def L_spec_IndexOf_2 (Q : QT [.int .i64]) (N0 : Nat) (a0 : Option Addr) (e0 : List D) (c0 : Nat) (s1 : ByteArray) (n5 : Int) (N : Nat) : Prop := AT prog 136 [.int .i64] Q N0 .ord (loopAt prog 136 2) ⟨.sv a0 0 e0 c0 :: .str s1 :: an 3 (.int .i64 n5 :: an 13 []), [], N, none⟩
def L_spec_l15Ctx_3 (Q : QT [.sl 4]) (N0 : Nat) (a0 : Option Addr) (e0 : List D) (c0 m3 c3 : Nat) (n4 : Int) (r0 : List D) (q0 : Nat) (N : Nat) : Prop := AT prog 61 [.sl 4] Q N0 .ord (loopAt prog 61 3) ⟨.sv a0 4 e0 c0 :: an 2 (.sb 0 4 0 m3 c3 :: .int .i64 n4 :: an 22 []), [.arr 97 4 r0 q0], N, none⟩
def L_spec_l15Is_2 (Q : QT [.bool]) (N0 : Nat) (n3 : Int) (y0 : D) (N : Nat) : Prop := AT prog 87 [.bool] Q N0 .ord (loopAt prog 87 2) ⟨an 1 (.pb 0 0 0 0 :: an 1 (.int .i64 n3 :: an 22 [])), [.vd y0 9], N, none⟩
def L_spec_l5Left_3 (Q : QT [.int .i64]) (N0 : Nat) (n1 n5 : Int) (y0 : D) (N : Nat) : Prop := AT prog 137 [.int .i64] Q N0 .ord (loopAt prog 137 3) ⟨an 1 (.int .i64 n1 :: .pb 0 0 0 0 :: an 2 (.int .i64 n5 :: an 21 [])), [.vd y0 9], N, none⟩
def L_slices_IndexFunc_Term_2b (Q : QT [.int .i64]) (N0 : Nat) (a0 : Option Addr) (e0 : List D) (c0 : Nat) (a1_0 : Addr) (n7 n8 : Int) (N : Nat) : Prop := AT prog 132 [.int .i64] Q N0 .ord (loopAt prog 132 2) ⟨.sv a0 9 e0 c0 :: .fn 142 [.pd a1_0 0 (.fn 96 [])] :: an 5 (.int .i64 n7 :: .int .i64 n8 :: an 10 []), [], N, none⟩
theorem w_impl_AreParams (N : Nat) (a0 : Option Addr) (e0 : List D) (c0 : Nat) (Q : QT [.bool]) (h :
Bel N (D.sl a0 4 e0 c0) → Br (decide ((e0.length : Int) > 5)) (∀ a, N ≤ a → Q false a) (∀ b, N ≤ b → ACalls prog 77 [.sl 0] [.sv a0 4 e0 c0] b (fun a
 c d e => b ≤ e → Bel e (D.sl a 0 c d) → L_impl_AreParams_5 Q N a c d a0 e0 c0 (e0.length : Int) 0 e))) : ACalls prog 98 [.bool] [PV.sv a0 4 e0 c0] N Q :=
  eE (H := H_impl_AreParams) (by kernel_rfl) (by kernel_rfl) h
theorem w_impl_BodyType (N : Nat) (a0 : Option Addr) (e0 : List D) (c0 : Nat) (x1 : D) (Q : QT [.ag 2, .bool]) (h :
Bel N (D.sl a0 4 e0 c0) → Bel N x1 → ∀ a, N ≤ a → ACalls prog 95 [.bool] [.dg 9 x1, .fn 96 []] a (fun b c => a ≤ c → ∀ a, c ≤ a → ACalls prog 98
 [.bool] [.sv a0 4 e0 c0] a (fun c d => a ≤ d → Br (!c) (∀ a, d ≤ a → Q (D.ag [D.lit (.int .i64 0), D.sl Option.none 2 [] 0]) false a) (∀ a,
 d ≤ a → ACalls prog 99 [.bool] [.dg 9 x1] a (fun c d => a ≤ d → Br (!c) (∀ a, d ≤ a → Q (D.ag [D.lit (.int .i64 0), D.sl Option.none 2 [] 0])
 false a) (Br (!b) (∀ a, d ≤ a → Q (D.ag [D.lit (.int .i64 0), D.sl Option.none 2 [] 0]) false a) (L_impl_BodyType_6 Q N 0 0 a0 e0 c0 (e0.length : Int)
 0 x1 0 Option.none [] 0 [] 0 d))))))) : ACalls prog 45 [.ag 2, .bool] [PV.sv a0 4 e0 c0, PV.dg 9 x1] N Q :=
  eE (H := H_impl_BodyType) (by kernel_rfl) (by kernel_rfl) h
theorem w_impl_DepthOf (N : Nat) (x0 : D) (Q : QT [.int .i64]) (h :
Bel N x0 → ∃ a b, ∃ c : Nat, (x0.cell 8) = D.sl a 9 b c ∧ L_impl_DepthOf_3 Q N 0 a b c (b.length : Int) 0 N) : ACalls prog 147 [.int .i64] [PV.dg 9 x0] N Q :=
 eE (H := H_impl_DepthOf) (by kernel_rfl) (by kernel_rfl) h
theorem w_impl_IndexOf (N : Nat) (a0 : Option Addr) (e0 : List D) (c0 : Nat) (s1 : ByteArray) (Q : QT [.int .i64]) (h :
Bel N (D.sl a0 0 e0 c0) → ∀ a, N ≤ a → ACalls prog 186 [.int .i64] [.sv a0 0 e0 c0, .str s1] a (fun n b => a ≤ b → ∀ a, b ≤ a → Q n a)) : ACalls prog 145 [.int .i64] [PV.sv a0 0 e0 c0, PV.str s1] N Q :=
 eE (H := H_impl_IndexOf) (by kernel_rfl) (by kernel_rfl) h
theorem w_impl_IsValidTerm (N : Nat) (x0 : D) (Q : QT [.bool]) (h :
Bel N x0 → ∀ a, N ≤ a → ACalls prog 146 [.bool] [.dg 9 x0] a (fun b c => a ≤ c → Br b (∀ a, c ≤ a → ACalls prog 57 [.int .i64] [.dg 9 x0] a (fun
 n b => a ≤ b → Br (decide (n ≤ 80)) (∀ a, b ≤ a → ACalls prog 147 [.int .i64] [.dg 9 x0] a (fun b c => a ≤ c → ∀ a, c ≤ a → Q (decide
 (b ≤ 20)) a)) (∀ a, b ≤ a → Q false a))) (∀ a, c ≤ a → Q false a))) : ACalls prog 99 [.bool] [PV.dg 9 x0] N Q :=
  eE (H := H_impl_IsValidTerm) (by kernel_rfl) (by kernel_rfl) h
theorem w_impl_SizeOf (N : Nat) (x0 : D) (Q : QT [.int .i64]) (h :
Bel N x0 → ∃ a b, ∃ c : Nat, (x0.cell 8) = D.sl a 9 b c ∧ L_impl_SizeOf_3 Q N 1 a b c (b.length : Int) 0 N) : ACalls prog 57 [.int .i64] [PV.dg 9 x0] N Q :=
 eE (H := H_impl_SizeOf) (by kernel_rfl) (by kernel_rfl) h
theorem w_impl_paramNames (N : Nat) (a0 : Option Addr) (e0 : List D) (c0 : Nat) (Q : QT [.sl 0]) (h :
Bel N (D.sl a0 4 e0 c0) → L_impl_paramNames_3 Q N 0 0 a0 e0 c0 (e0.length : Int) 0 [] 0 N) : ACalls prog 77 [.sl 0] [PV.sv a0 4 e0 c0] N Q :=
 eE (H := H_impl_paramNames) (by kernel_rfl) (by kernel_rfl) h
theorem w_spec_AreParams (N : Nat) (a0 : Option Addr) (e0 : List D) (c0 : Nat) (Q : QT [.bool]) (h :
Bel N (D.sl a0 4 e0 c0) → L_spec_AreParams_3 Q N a0 e0 c0 0 0 0 [] 0 N) : ACalls prog 85 [.bool] [PV.sv a0 4 e0 c0] N Q :=
 eE (H := H_spec_AreParams) (by kernel_rfl) (by kernel_rfl) h
theorem w_spec_BodyType (N : Nat) (a0 : Option Addr) (e0 : List D) (c0 : Nat) (x1 : D) (Q : QT [.ag 2, .bool]) (h :
Bel N (D.sl a0 4 e0 c0) → Bel N x1 → ∀ d, N ≤ d → ACalls prog 85 [.bool] [.sv a0 4 e0 c0] d (fun b e => d ≤ e → Br (!b) (∀ a, e ≤ a → Q (D.ag [D.lit
 (.int .i64 0), D.sl Option.none 2 [] 0]) false a) (∀ b, e ≤ b → ACalls prog 86 [.bool] [.dg 9 x1] b (fun d e => b ≤ e → Br (!d) (∀ a, e ≤
 a → Q (D.ag [D.lit (.int .i64 0), D.sl Option.none 2 [] 0]) false a) (∀ b, e ≤ b → ACalls prog 87 [.bool] [.dg 9 x1] b (fun d e => b ≤ e → Br
 (!d) (∀ a, e ≤ a → Q (D.ag [D.lit (.int .i64 0), D.sl Option.none 2 [] 0]) false a) (∀ b, e ≤ b → ACalls prog 61 [.sl 4] [.sv a0 4 e0 c0] b
 (fun a c d e => b ≤ e → Bel e (D.sl a 4 c d) → ∀ b, e ≤ b → ACalls prog 88 [.ag 2, .bool] [.sv a 4 c d, .dg 9 x1, .int .i64 0] b (fun
 x a c => b ≤ c → Bel c x → ∀ b, c ≤ b → Q x a b))))))))) : ACalls prog 39 [.ag 2, .bool] [PV.sv a0 4 e0 c0, PV.dg 9 x1] N Q :=
  eE (H := H_spec_BodyType) (by kernel_rfl) (by kernel_rfl) h
theorem w_spec_DepthOf (N : Nat) (x0 : D) (Q : QT [.int .i64]) (h :
Bel N x0 → L_spec_DepthOf_3 Q N 0 0 x0 N) : ACalls prog 138 [.int .i64] [PV.dg 9 x0] N Q :=
 eE (H := H_spec_DepthOf) (by kernel_rfl) (by kernel_rfl) h
theorem w_spec_IndexOf (N : Nat) (a0 : Option Addr) (e0 : List D) (c0 : Nat) (s1 : ByteArray) (Q : QT [.int .i64]) (h :
Bel N (D.sl a0 0 e0 c0) → L_spec_IndexOf_2 Q N a0 e0 c0 s1 0 N) : ACalls prog 136 [.int .i64] [PV.sv a0 0 e0 c0, PV.str s1] N Q :=
 eE (H := H_spec_IndexOf) (by kernel_rfl) (by kernel_rfl) h
theorem w_spec_IsValidTerm (N : Nat) (x0 : D) (Q : QT [.bool]) (h :
Bel N x0 → ∀ a, N ≤ a → ACalls prog 137 [.int .i64] [.dg 9 x0, .int .i64 80] a (fun n c => a ≤ c → Br (decide (n ≥ 0)) (∀ a, c ≤ a → ACalls prog
 138 [.int .i64] [.dg 9 x0] a (fun c d => a ≤ d → Br (decide (c ≤ 20)) (∀ a, d ≤ a → ACalls prog 139 [.bool] [.dg 9 x0] a (fun b c => a ≤
 c → ∀ a, c ≤ a → Q b a)) (∀ a, d ≤ a → Q false a))) (∀ a, c ≤ a → Q false a))) : ACalls prog 86 [.bool] [PV.dg 9 x0] N Q :=
  eE (H := H_spec_IsValidTerm) (by kernel_rfl) (by kernel_rfl) h
theorem w_spec_l15Ctx (N : Nat) (a0 : Option Addr) (e0 : List D) (c0 : Nat) (Q : QT [.sl 4]) (h :
Bel N (D.sl a0 4 e0 c0) → L_spec_l15Ctx_3 Q N a0 e0 c0 0 0 0 [] 0 N) : ACalls prog 61 [.sl 4] [PV.sv a0 4 e0 c0] N Q :=
 eE (H := H_spec_l15Ctx) (by kernel_rfl) (by kernel_rfl) h
theorem w_spec_l15Is (N : Nat) (x0 : D) (Q : QT [.bool]) (h :
Bel N x0 → L_spec_l15Is_2 Q N 0 x0 N) : ACalls prog 87 [.bool] [PV.dg 9 x0] N Q :=
 eE (H := H_spec_l15Is) (by kernel_rfl) (by kernel_rfl) h
theorem w_spec_l5Left (N : Nat) (x0 : D) (n1 : Int) (Q : QT [.int .i64]) (h :
Bel N x0 → L_spec_l5Left_3 Q N (IntKind.i64.wrap (n1 - 1)) 0 x0 N) : ACalls prog 137 [.int .i64] [PV.dg 9 x0, PV.int .i64 n1] N Q :=
 eE (H := H_spec_l5Left) (by kernel_rfl) (by kernel_rfl) h
theorem l_impl_AreParams_5 (Q : QT [.bool]) (N0 : Nat) (a3 : Option Addr) (e3 : List D) (c3 : Nat) (a11 : Option Addr) (e11 : List D) (c11 : Nat) (n12 n13 : Int) (N : Nat) (h :
Br (decide (n13 < n12)) ((0 ≤ n13 ∧ n13 < (e11.length : Int)) ∧ ∃ s, D.cell (List.getD e11 n13.toNat default) 0 = D.lit (.string s) ∧ ∀ a, N ≤ a → ACalls prog
 143 [.bool] [.str s] a (fun b c => a ≤ c → Br (!b) (∀ a, c ≤ a → Q false a) (∀ a, c ≤ a → ACalls prog 144 [.bool] [.dg 2 (D.sub (List.getD
 e11 n13.toNat default) 1 2)] a (fun b c => a ≤ c → Br (!b) (∀ a, c ≤ a → Q false a) (∃ a, D.cell (List.getD e11 n13.toNat default) 0 = D.lit
 (.string a) ∧ ∀ b, c ≤ b → ACalls prog 145 [.int .i64] [.sv a3 0 e3 c3, .str a] b (fun n a => b ≤ a → Br (bne n n13) (∀ b, a ≤ b → Q false
 b) (L_impl_AreParams_5 Q N0 a3 e3 c3 a11 e11 c11 n12 (IntKind.i64.wrap (n13 + 1)) a))))))) (∀ a, N ≤ a → Q true a)) : L_impl_AreParams_5 Q N0 a3 e3 c3 a11 e11 c11 n12 n13 N :=
  hE (H := H_impl_AreParams) (by kernel_rfl) h
theorem w_impl_allTerms_i0b (N : Nat) (x0 : D) (Q : QT [.bool]) (h :
Bel N x0 → ∀ d, N ≤ d → ACalls prog 96 [.bool] [.dg 9 x0] d (fun b e => d ≤ e → Br b (∃ a b, ∃ c : Nat, (x0.cell 8) = D.sl a 9 b c ∧ ∀ d, ApA (Option.some
 d) [D.fn (OfNat.ofNat 96) []] → Off [Option.some d] (D.sl a 9 b c) → ∀ f, e ≤ f → BelA f [Option.some d] → ACalls prog 80 [.bool] [.sv a 9 b c, .fn
 142 [.pd d 0 (.fn 96 [])]] f (fun a b => f ≤ b → ∀ c, b ≤ c → Q (!a) c)) (∀ a, e ≤ a → Q false a))) : ACalls prog 95 [.bool] [.dg 9 x0, .fn 96 []] N Q :=
  eE (H := H_impl_allTermsb) (by kernel_rfl) (by kernel_rfl) h
theorem l_impl_BodyType_6 (Q : QT [.ag 2, .bool]) (N0 : Nat) (m7 c7 : Nat) (a26 : Option Addr) (e26 : List D) (c26 : Nat) (n27 n28 : Int) (y0 : D) (n1_0 : Int) (a1_1 : Option Addr) (e1_1 : List D) (c1_1 : Nat) (r2 : List D) (q2 : Nat) (N : Nat) (h :
Br (decide (n28 < n27)) ((0 ≤ n28 ∧ n28 < (e26.length : Int)) ∧ ∃ s, D.cell (List.getD e26 n28.toNat default) 0 = D.lit (.string s) ∧ (m7 = r2.length ∧ c7 = q2)
 ∧ apBound r2 [D.ag [D.lit (.string s), D.cell (D.sub (List.getD e26 n28.toNat default) 1 2) 0, D.cell (D.sub (List.getD e26 n28.toNat default) 1 2) 1, D.lit (.int
 .i64 0)]] 56 ∧ ∀ (c : Nat), L_impl_BodyType_6 Q N0 (r2 ++ [D.ag [D.lit (.string s), D.cell (D.sub (List.getD e26 n28.toNat default) 1 2) 0, D.cell (D.sub (List.getD
 e26 n28.toNat default) 1 2) 1, D.lit (.int .i64 0)]]).length c a26 e26 c26 n27 (IntKind.i64.wrap (n28 + 1)) y0 n1_0 a1_1 e1_1 c1_1 (r2 ++ [D.ag [D.lit (.string s),
 D.cell (D.sub (List.getD e26 n28.toNat default) 1 2) 0, D.cell (D.sub (List.getD e26 n28.toNat default) 1 2) 1, D.lit (.int .i64 0)]]) c N) ((m7 = r2.length ∧ c7
 = q2) ∧ ∀ a, ApA a r2 → Off [a] y0 → ∀ c, N ≤ c → BelA c [a] → ACalls prog 100 [.ag 2, .bool] [.sv a 4 r2 c7, .dg 9 y0, .int .i64 0] c (fun x b d => c
 ≤ d → Off [a] x ∧ (Bel d x → ∀ a, d ≤ a → Q x b a)))) : L_impl_BodyType_6 Q N0 m7 c7 a26 e26 c26 n27 n28 y0 n1_0 a1_1 e1_1 c1_1 r2 q2 N :=
  hE (H := H_impl_BodyType) (by kernel_rfl) h
theorem l_impl_DepthOf_3 (Q : QT [.int .i64]) (N0 : Nat) (n3 : Int) (a7 : Option Addr) (e7 : List D) (c7 : Nat) (n8 n9 : Int) (N : Nat) (h :
Br (decide (n9 < n8)) ((0 ≤ n9 ∧ n9 < (e7.length : Int)) ∧ ∀ a, N ≤ a → ACalls prog 147 [.int .i64] [.dg 9 (List.getD e7 n9.toNat default)] a (fun n b =>
 a ≤ b → L_impl_DepthOf_3 Q N0 (if n > n3 then n else n3) a7 e7 c7 n8 (IntKind.i64.wrap (n9 + 1)) b)) (∀ a, N ≤ a → Q (IntKind.i64.wrap (n3 + 1)) a)) : L_impl_DepthOf_3 Q N0 n3 a7 e7 c7 n8 n9 N :=
  hE (H := H_impl_DepthOf) (by kernel_rfl) h
theorem l_impl_SizeOf_3 (Q : QT [.int .i64]) (N0 : Nat) (n3 : Int) (a7 : Option Addr) (e7 : List D) (c7 : Nat) (n8 n9 : Int) (N : Nat) (h :
Br (decide (n9 < n8)) ((0 ≤ n9 ∧ n9 < (e7.length : Int)) ∧ ∀ a, N ≤ a → ACalls prog 57 [.int .i64] [.dg 9 (List.getD e7 n9.toNat default)] a (fun n b =>
 a ≤ b → L_impl_SizeOf_3 Q N0 (IntKind.i64.wrap (n3 + n)) a7 e7 c7 n8 (IntKind.i64.wrap (n9 + 1)) b)) (∀ a, N ≤ a → Q n3 a)) : L_impl_SizeOf_3 Q N0 n3 a7 e7 c7 n8 n9 N :=
  hE (H := H_impl_SizeOf) (by kernel_rfl) h
theorem l_impl_paramNames_3 (Q : QT [.sl 0]) (N0 : Nat) (m3 c3 : Nat) (a7 : Option Addr) (e7 : List D) (c7 : Nat) (n8 n9 : Int) (r0 : List D) (q0 : Nat) (N : Nat) (h :
Br (decide (n9 < n8)) ((0 ≤ n9 ∧ n9 < (e7.length : Int)) ∧ ∃ s, D.cell (List.getD e7 n9.toNat default) 0 = D.lit (.string s) ∧ (m3 = r0.length ∧ c3 = q0) ∧ apBound
 r0 [D.lit (.string s)] 16 ∧ ∀ (c : Nat), L_impl_paramNames_3 Q N0 (r0 ++ [D.lit (.string s)]).length c a7 e7 c7 n8 (IntKind.i64.wrap (n9 + 1)) (r0 ++ [D.lit (.string
 s)]) c N) ((m3 = r0.length ∧ c3 = q0) ∧ (m3 = r0.length ∧ c3 = q0) ∧ (m3 = r0.length ∧ c3 = q0) ∧ ∀ a b, N ≤ b → Fresh N0 b a [D.ag r0] → ∀ c, b ≤ c
 → Q a r0 q0 c)) : L_impl_paramNames_3 Q N0 m3 c3 a7 e7 c7 n8 n9 r0 q0 N :=
  hE (H := H_impl_paramNames) (by kernel_rfl) h
theorem l_spec_AreParams_3 (Q : QT [.bool]) (N0 : Nat) (a0 : Option Addr) (e0 : List D) (c0 m3 c3 : Nat) (n4 : Int) (r0 : List D) (q0 : Nat) (N : Nat) (h :
Br (decide (n4 < (e0.length : Int))) ((0 ≤ n4 ∧ n4 < (e0.length : Int)) ∧ ∃ s, (if 0 = 0 then D.cell (List.getD e0 n4.toNat default) 0 else D.sub (List.getD e0 n4.toNat
 default) 0 0) = D.lit (.string s) ∧ ∀ d, N ≤ d → ACalls prog 134 [.bool] [.str s] d (fun b e => d ≤ e → Br (!b) (∀ a, e ≤ a → Q false a) ((0
 ≤ n4 ∧ n4 < (e0.length : Int)) ∧ ∀ b, e ≤ b → ACalls prog 135 [.bool] [.dg 2 (if 2 = 0 then D.cell (List.getD e0 n4.toNat default) 1 else D.sub (List.getD
 e0 n4.toNat default) 1 2)] b (fun d e => b ≤ e → Br (!d) (∀ a, e ≤ a → Q false a) ((0 ≤ n4 ∧ n4 < (e0.length : Int)) ∧ ∃ b, (if 0 = 0 then
 D.cell (List.getD e0 n4.toNat default) 0 else D.sub (List.getD e0 n4.toNat default) 0 0) = D.lit (.string b) ∧ (m3 = r0.length ∧ c3 = q0) ∧ ∀ a, ApA a r0 → ∀ d,
 e ≤ d → BelA d [a] → ACalls prog 136 [.int .i64] [.sv a 0 r0 c3, .str b] d (fun n a => d ≤ a → Br (decide (n ≥ 0)) (∀ b, a ≤ b → Q false b)
 ((0 ≤ n4 ∧ n4 < (e0.length : Int)) ∧ ∃ b, (if 0 = 0 then D.cell (List.getD e0 n4.toNat default) 0 else D.sub (List.getD e0 n4.toNat default) 0 0) = D.lit (.string
 b) ∧ (m3 = r0.length ∧ c3 = q0) ∧ apBound r0 [D.lit (.string b)] 16 ∧ ∀ (c : Nat), L_spec_AreParams_3 Q N0 a0 e0 c0 (r0 ++ [D.lit (.string b)]).length c (IntKind.i64.wrap
 (n4 + 1)) (r0 ++ [D.lit (.string b)]) c a))))))) (∀ a, N ≤ a → Q (decide ((m3 : Int) ≤ 5)) a)) : L_spec_AreParams_3 Q N0 a0 e0 c0 m3 c3 n4 r0 q0 N :=
  hE (H := H_spec_AreParams) (by kernel_rfl) h
theorem l_spec_DepthOf_3 (Q : QT [.int .i64]) (N0 : Nat) (n3 n4 : Int) (y0 : D) (N : Nat) (h :
∃ a b, ∃ c : Nat, (y0.cell 8) = D.sl a 9 b c ∧ Br (decide (n4 < (b.length : Int))) (∃ a b, ∃ c : Nat, (y0.cell 8) = D.sl a 9 b c ∧ (0 ≤ n4 ∧ n4
 < (b.length : Int)) ∧ ∀ a, N ≤ a → ACalls prog 138 [.int .i64] [.dg 9 (List.getD b n4.toNat default)] a (fun n b => a ≤ b → ∀ a, b ≤ a →
 ACalls prog 174 [.int .i64] [.int .i64 n3, .int .i64 n] a (fun b c => a ≤ c → L_spec_DepthOf_3 Q N0 b (IntKind.i64.wrap (n4 + 1)) y0 c))) (∀ a, N
 ≤ a → Q (IntKind.i64.wrap (n3 + 1)) a)) : L_spec_DepthOf_3 Q N0 n3 n4 y0 N :=
  hE (H := H_spec_DepthOf) (by kernel_rfl) h
theorem l_spec_IndexOf_2 (Q : QT [.int .i64]) (N0 : Nat) (a0 : Option Addr) (e0 : List D) (c0 : Nat) (s1 : ByteArray) (n5 : Int) (N : Nat) (h :
Br (decide (n5 < (e0.length : Int))) ((0 ≤ n5 ∧ n5 < (e0.length : Int)) ∧ ∃ s, List.getD e0 n5.toNat default = D.lit (.string s) ∧ Br (ByteArray.toList s == ByteArray.toList
 s1) (∀ a, N ≤ a → Q n5 a) (L_spec_IndexOf_2 Q N0 a0 e0 c0 s1 (IntKind.i64.wrap (n5 + 1)) N)) (∀ a, N ≤ a → Q (-1) a)) : L_spec_IndexOf_2 Q N0 a0 e0 c0 s1 n5 N :=
  hE (H := H_spec_IndexOf) (by kernel_rfl) h
theorem l_spec_l15Ctx_3 (Q : QT [.sl 4]) (N0 : Nat) (a0 : Option Addr) (e0 : List D) (c0 m3 c3 : Nat) (n4 : Int) (r0 : List D) (q0 : Nat) (N : Nat) (h :
Br (decide (n4 < (e0.length : Int))) ((0 ≤ n4 ∧ n4 < (e0.length : Int)) ∧ ∃ s, (if 0 = 0 then D.cell (List.getD e0 n4.toNat default) 0 else D.sub (List.getD e0 n4.toNat
 default) 0 0) = D.lit (.string s) ∧ (0 ≤ n4 ∧ n4 < (e0.length : Int)) ∧ (m3 = r0.length ∧ c3 = q0) ∧ apBound r0 [D.ag [D.lit (.string s), D.cell (if 2 = 0 then D.cell
 (List.getD e0 n4.toNat default) 1 else D.sub (List.getD e0 n4.toNat default) 1 2) 0, D.cell (if 2 = 0 then D.cell (List.getD e0 n4.toNat default) 1 else D.sub (List.getD
 e0 n4.toNat default) 1 2) 1, D.lit (.int .i64 0)]] 56 ∧ ∀ (c : Nat), L_spec_l15Ctx_3 Q N0 a0 e0 c0 (r0 ++ [D.ag [D.lit (.string s), D.cell (if 2 = 0 then D.cell
 (List.getD e0 n4.toNat default) 1 else D.sub (List.getD e0 n4.toNat default) 1 2) 0, D.cell (if 2 = 0 then D.cell (List.getD e0 n4.toNat default) 1 else D.sub (List.getD
 e0 n4.toNat default) 1 2) 1, D.lit (.int .i64 0)]]).length c (IntKind.i64.wrap (n4 + 1)) (r0 ++ [D.ag [D.lit (.string s), D.cell (if 2 = 0 then D.cell (List.getD
 e0 n4.toNat default) 1 else D.sub (List.getD e0 n4.toNat default) 1 2) 0, D.cell (if 2 = 0 then D.cell (List.getD e0 n4.toNat default) 1 else D.sub (List.getD e0
 n4.toNat default) 1 2) 1, D.lit (.int .i64 0)]]) c N) ((m3 = r0.length ∧ c3 = q0) ∧ (m3 = r0.length ∧ c3 = q0) ∧ (m3 = r0.length ∧ c3 = q0) ∧ ∀ a b, N ≤ b →
 Fresh N0 b a [D.ag r0] → ∀ c, b ≤ c → Q a r0 q0 c)) : L_spec_l15Ctx_3 Q N0 a0 e0 c0 m3 c3 n4 r0 q0 N :=
  hE (H := H_spec_l15Ctx) (by kernel_rfl) h
theorem l_spec_l15Is_2 (Q : QT [.bool]) (N0 : Nat) (n3 : Int) (y0 : D) (N : Nat) (h :
∃ a d, ∃ c : Nat, (y0.cell 8) = D.sl a 9 d c ∧ Br (decide (n3 < (d.length : Int))) (∃ a c, ∃ d : Nat, (y0.cell 8) = D.sl a 9 c d ∧ (0 ≤ n3 ∧ n3
 < (c.length : Int)) ∧ ∀ a, N ≤ a → ACalls prog 87 [.bool] [.dg 9 (List.getD c n3.toNat default)] a (fun b c => a ≤ c → Br (!b) (∀ a, c ≤ a
 → Q false a) (L_spec_l15Is_2 Q N0 (IntKind.i64.wrap (n3 + 1)) y0 c))) (∃ n : Int, (y0.cell 0) = D.lit (.int .i64 n) ∧ ∀ a, N ≤ a → ACalls prog 113 [.bool]
 [.int .i64 n, .int .i64 1, .int .i64 5] a (fun b c => a ≤ c → Br b (∀ a, c ≤ a → Q true a) (∃ a : Int, (y0.cell 0) = D.lit (.int .i64 a)
 ∧ ∀ b, c ≤ b → Q (a == 8) b)))) : L_spec_l15Is_2 Q N0 n3 y0 N :=
  hE (H := H_spec_l15Is) (by kernel_rfl) h
theorem l_spec_l5Left_3 (Q : QT [.int .i64]) (N0 : Nat) (n1 n5 : Int) (y0 : D) (N : Nat) (h :
∃ a b, ∃ c : Nat, (y0.cell 8) = D.sl a 9 b c ∧ Br (decide (n5 < (b.length : Int))) (Br (decide (n1 ≥ 0)) (∃ a b, ∃ c : Nat, (y0.cell 8) = D.sl a 9 b
 c ∧ (0 ≤ n5 ∧ n5 < (b.length : Int)) ∧ ∀ a, N ≤ a → ACalls prog 137 [.int .i64] [.dg 9 (List.getD b n5.toNat default), .int .i64 n1] a (fun n b =>
 a ≤ b → L_spec_l5Left_3 Q N0 n (IntKind.i64.wrap (n5 + 1)) y0 b)) (∀ a, N ≤ a → Q n1 a)) (∀ a, N ≤ a → Q n1 a)) : L_spec_l5Left_3 Q N0 n1 n5 y0 N :=
  hE (H := H_spec_l5Left) (by kernel_rfl) h
theorem w_slices_ContainsFunc_Term_i0b (N : Nat) (a0 : Option Addr) (e0 : List D) (c0 : Nat) (a1_0 : Addr) (Q : QT [.bool]) (h :
Bel N (D.sl a0 9 e0 c0) → ∀ a, N ≤ a → ACalls prog 132 [.int .i64] [.sv a0 9 e0 c0, .fn 142 [.pd a1_0 0 (.fn 96 [])]] a (fun n b => a ≤ b → ∀ a, b
 ≤ a → Q (decide (n ≥ 0)) a)) : ACalls prog 80 [.bool] [.sv a0 9 e0 c0, .fn 142 [.pd a1_0 0 (.fn 96 [])]] N Q :=
  eE (H := H_slices_ContainsFunc_Termb) (by kernel_rfl) (by kernel_rfl) h
theorem w_slices_IndexFunc_Term_i0b (N : Nat) (a0 : Option Addr) (e0 : List D) (c0 : Nat) (a1_0 : Addr) (Q : QT [.int .i64]) (h :
Bel N (D.sl a0 9 e0 c0) → L_slices_IndexFunc_Term_2b Q N a0 e0 c0 a1_0 (e0.length : Int) 0 N) : ACalls prog 132 [.int .i64] [.sv a0 9 e0 c0, .fn 142 [.pd a1_0 0 (.fn 96 [])]] N Q :=
 eE (H := H_slices_IndexFunc_Termb) (by kernel_rfl) (by kernel_rfl) h
theorem l_slices_IndexFunc_Term_2b (Q : QT [.int .i64]) (N0 : Nat) (a0 : Option Addr) (e0 : List D) (c0 : Nat) (a1_0 : Addr) (n7 n8 : Int) (N : Nat) (h :
Br (decide (n8 < n7)) ((0 ≤ n8 ∧ n8 < (e0.length : Int)) ∧ ∀ a, N ≤ a → ACalls prog 142 [.bool] [.dg 9 (List.getD e0 n8.toNat default), .pd a1_0 0 (.fn 96 [])]
 a (fun b c => a ≤ c → Br b (∀ a, c ≤ a → Q n8 a) (L_slices_IndexFunc_Term_2b Q N0 a0 e0 c0 a1_0 n7 (IntKind.i64.wrap (n8 + 1)) c))) (∀ a, N ≤
 a → Q (-1) a)) : L_slices_IndexFunc_Term_2b Q N0 a0 e0 c0 a1_0 n7 n8 N :=
  hE (H := H_slices_IndexFunc_Termb) (by kernel_rfl) h
theorem w_impl_allTerms_1_i0b (N : Nat) (x0 : D) (a1 : Addr) (Q : QT [.bool]) (h :
Bel N x0 → ∀ a, N ≤ a → ACalls prog 95 [.bool] [.dg 9 x0, .fn 96 []] a (fun b c => a ≤ c → ∀ a, c ≤ a → Q (!b) a)) : ACalls prog 142 [.bool] [.dg 9 x0, .pd a1 0 (.fn 96 [])] N Q :=
 eE (H := H_impl_allTerms_1b) (by kernel_rfl) (by kernel_rfl) h

end Go.Proofs.YtfkmegifjiiclaaGreat

/- Printed by gen.py: what the functions come to. -/
set_option linter.unusedVariables false
set_option maxRecDepth 100000
namespace Go.Proofs.YtfkmegifjiiclaaGreat
open Go Go.Proofs Go.Proofs.Tryz
def H_impl_BodyType_1 : Hint := ⟨[], [], []⟩
theorem w_impl_BodyType_1 (N : Nat) (x0 : D) (Q : QT [.bool]) (h :
Bel N x0 → ∃ n : Int, (x0.cell 0) = D.lit (.int .i64 n) ∧ ∀ a, N ≤ a → ACalls prog 97 [.bool] [.int .i64 n, .int .i64 1, .int .i64 5] a (fun b c => a ≤
 c → Br b (∀ a, c ≤ a → Q true a) (∃ a : Int, (x0.cell 0) = D.lit (.int .i64 a) ∧ ∀ b, c ≤ b → Q (a == 8) b))) : ACalls prog 96 [.bool] [PV.dg 9 x0] N Q :=
  eE (H := H_impl_BodyType_1) (by kernel_rfl) (by kernel_rfl) h

end Go.Proofs.YtfkmegifjiiclaaGreat

/- Printed by gen.py: what the functions come to. -/
set_option linter.unusedVariables false
set_option maxRecDepth 100000
namespace Go.Proofs.YtfkmegifjiiclaaGreat
open Go Go.Proofs Go.Proofs.Tryz
def H_slices_Clone_place_places : Hint := ⟨[], [], []⟩
def H_impl_places_and : Hint := ⟨[], [], [(1, [en 0, en 2, en 3, eh 1, eh 4, en 5])]⟩
def H_impl_times : Hint := ⟨[hc 3 [1, 5, 10, 11, 12]], [], [(7, [en 0, en 1, en 2, en 3, en 4, en 5, eh 6, eh 7])]⟩
def H_impl_places_inside : Hint := ⟨[], [], [(3, [en 0, en 1, en 2, en 3, en 4, en 5, en 6, en 7, ec 8 [22], en 9, eh 10, en 11])]⟩
def H_impl_places_isDynamic : Hint := ⟨[hc 4 [0, 3, 16, 17, 18]], [], [(6, [en 0, en 1, en 2, en 4, ec 3 [24], ec 5 [27]])]⟩
def H_spec_l16Env : Hint := ⟨[hc 3 [0, 3, 4] [(3, 116, 2)]], [], [(5, [en 0, en 1, en 2, en 3, en 4, en 5, en 6, en 7, en 8, en 9, en 10, en 11, en 12, eh 13, eh 14])]⟩
def H_spec_l16With : Hint := ⟨[], [], []⟩
def H_spec_l16Late : Hint := ⟨[hc 4 [1, 2, 5], hc 12 [1, 2, 7]], [], [(6, [en 0, en 1, en 2, en 3, en 4, en 5, en 6, en 7]), (9, hs 7 [ec 5 [37]]), (10, [en 0, en 1, en 2, en 3, en 4, en 5, en 6, en 7, en 8, en 9, eh 10, ec 11 [45], en 12, en 13]), (14, hs 7 [ec 6 [64]])]⟩
def L_impl_times_3 (Q : QT [.sl 3]) (N0 : Nat) (a1 : Option Addr) (e1 : List D) (c1 m5 c5 : Nat) (a10 : Option Addr) (e10 : List D) (c10 : Nat) (n11 n12 : Int) (r0 : List D) (q0 : Nat) (N : Nat) : Prop := AT prog 46 [.sl 3] Q N0 .ord (loopAt prog 46 3) ⟨an 1 (.sv a1 0 e1 c1 :: an 3 (.sb 0 3 0 m5 c5 :: an 4 (.sv a10 4 e10 c10 :: .int .i64 n11 :: .int .i64 n12 :: an 27 []))), [.arr 121 3 r0 q0], N, none⟩
def L_impl_places_isDynamic_4 (Q : QT [.bool]) (N0 : Nat) (a0 : Option Addr) (e0 : List D) (c0 : Nat) (a16 : Option Addr) (e16 : List D) (c16 : Nat) (n17 n18 : Int) (y0 : D) (N : Nat) : Prop := AT prog 102 [.bool] Q N0 .ord (loopAt prog 102 4) ⟨.sv a0 3 e0 c0 :: an 2 (.pb 0 0 0 0 :: an 12 (.sv a16 9 e16 c16 :: .int .i64 n17 :: .int .i64 n18 :: an 11 [])), [.vd y0 9], N, none⟩
def L_spec_l16Env_3 (Q : QT [.sl 2]) (N0 : Nat) (a0 : Option Addr) (e0 : List D) (c0 m3 c3 : Nat) (n4 : Int) (r0 : List D) (q0 : Nat) (N : Nat) : Prop := AT prog 41 [.sl 2] Q N0 .ord (loopAt prog 41 3) ⟨.sv a0 4 e0 c0 :: an 2 (.sb 0 2 0 m3 c3 :: .int .i64 n4 :: an 22 []), [.arr 116 2 r0 q0], N, none⟩
def L_spec_l16Late_4 (Q : QT [.bool]) (N0 : Nat) (a1 : Option Addr) (e1 : List D) (c1 : Nat) (n5 : Int) (y0 : D) (N : Nat) : Prop := AT prog 89 [.bool] Q N0 .ord (loopAt prog 89 4) ⟨an 1 (.sv a1 2 e1 c1 :: .pb 0 0 0 0 :: an 2 (.int .i64 n5 :: an 61 [])), [.vd y0 9], N, none⟩
def L_spec_l16Late_12 (Q : QT [.bool]) (N0 : Nat) (a1 : Option Addr) (e1 : List D) (c1 : Nat) (n7 : Int) (y0 : D) (N : Nat) : Prop := AT prog 89 [.bool] Q N0 .ord (loopAt prog 89 12) ⟨an 1 (.sv a1 2 e1 c1 :: .pb 0 0 0 0 :: an 4 (.int .i64 n7 :: an 59 [])), [.vd y0 9], N, none⟩
def L_impl_times_3_v1 (Q : QT [.sl 3]) (N0 : Nat) (a1 : Option Addr) (e1 : List D) (c1 : Nat) (a5 : Option Addr) (e5 : List D) (c5 : Nat) (a10 : Option Addr) (e10 : List D) (c10 : Nat) (n11 n12 : Int) (N : Nat) : Prop := AT prog 46 [.sl 3] Q N0 .ord (loopAt prog 46 3) ⟨an 1 (.sv a1 0 e1 c1 :: an 3 (.sv a5 3 e5 c5 :: an 4 (.sv a10 4 e10 c10 :: .int .i64 n11 :: .int .i64 n12 :: an 27 []))), [], N, none⟩
theorem w_slices_Clone_place_places (N : Nat) (a0 : Option Addr) (e0 : List D) (c0 : Nat) (Q : QT [.row 121 3]) (h :
Bel N (D.sl a0 3 e0 c0) → Br (Option.isNone a0) (∀ a, N ≤ a → Q [] 0 a) ((0 = 0 ∧ 0 = 0) ∧ apBound [] e0 32 ∧ ∀ (c : Nat), (([] ++ e0).length = ([] ++ e0).length
 ∧ c = c) ∧ ∀ a, N ≤ a → Q ([] ++ e0) c a)) : ACalls prog 150 [.row 121 3] [PV.sv a0 3 e0 c0] N Q :=
  eE (H := H_slices_Clone_place_places) (by kernel_rfl) (by kernel_rfl) h
theorem w_impl_places_and (N : Nat) (a0 : Option Addr) (e0 : List D) (c0 : Nat) (x1 : D) (Q : QT [.sl 3]) (h :
Bel N (D.sl a0 3 e0 c0) → Bel N x1 → ∀ b, N ≤ b → ACalls prog 150 [.row (OfNat.ofNat 121) 3] [.sv a0 3 e0 c0] b (fun c d e => b ≤ e → Bel e (D.ag
 c) → (c.length = c.length ∧ d = d) ∧ apBound c [x1] 32 ∧ ∀ (b : Nat), ((c ++ [x1]).length = (c ++ [x1]).length ∧ b = b) ∧ ((c ++ [x1]).length = (c
 ++ [x1]).length ∧ b = b) ∧ ∀ a d, e ≤ d → Fresh N d a [D.ag (c ++ [x1])] → ∀ e, d ≤ e → Q a (c ++ [x1]) b e)) : ACalls prog 101 [.sl 3] [PV.sv a0 3 e0 c0, PV.dg 3 x1] N Q :=
  eE (H := H_impl_places_and) (by kernel_rfl) (by kernel_rfl) h
theorem w_impl_times (N : Nat) (a0 : Option Addr) (e0 : List D) (c0 : Nat) (a1 : Option Addr) (e1 : List D) (c1 : Nat) (Q : QT [.sl 3]) (h :
Bel N (D.sl a0 4 e0 c0) → Bel N (D.sl a1 0 e1 c1) → L_impl_times_3 Q N a1 e1 c1 0 0 a0 e0 c0 (e0.length : Int) 0 [] 0 N) : ACalls prog 46 [.sl 3] [PV.sv a0 4 e0 c0, PV.sv a1 0 e1 c1] N Q :=
 eE (H := H_impl_times) (by kernel_rfl) (by kernel_rfl) h
theorem w_impl_places_inside (N : Nat) (a0 : Option Addr) (e0 : List D) (c0 : Nat) (x1 : D) (n2 : Int) (Q : QT [.sl 3]) (h :
Bel N (D.sl a0 3 e0 c0) → Bel N x1 → ∃ n : Int, (x1.cell 0) = D.lit (.int .i64 n) ∧ Br (bne n 8) (∀ a, N ≤ a → Q a0 e0 c0 a) (Br (n2 == 0) (∀ a, N ≤ a
 → Q a0 e0 c0 a) (∃ s, (x1.cell 1) = D.lit (.string s) ∧ ∃ a d, ∃ c : Nat, (x1.cell 8) = D.sl a 9 d c ∧ ((0 : Int) ≤ (0 : Int) ∧ 0 < (d.length : Int)) ∧ ∀ a,
 N ≤ a → ACalls prog 102 [.bool] [.sv a0 3 e0 c0, .dg 9 (List.getD d 0 default)] a (fun b c => a ≤ c → ∀ a, c ≤ a → ACalls prog 101 [.sl 3] [.sv
 a0 3 e0 c0, .dg 3 (D.ag [D.lit (.string s), D.lit (.int .i64 0), D.lit (.bool b)])] a (fun b c d e => a ≤ e → Bel e (D.sl b 3 c d) → ∀ a,
 e ≤ a → Q b c d a))))) : ACalls prog 106 [.sl 3] [PV.sv a0 3 e0 c0, PV.dg 9 x1, PV.int .i64 n2] N Q :=
  eE (H := H_impl_places_inside) (by kernel_rfl) (by kernel_rfl) h
theorem w_impl_places_isDynamic (N : Nat) (a0 : Option Addr) (e0 : List D) (c0 : Nat) (x1 : D) (Q : QT [.bool]) (h :
Bel N (D.sl a0 3 e0 c0) → Bel N x1 → ∃ n : Int, (x1.cell 0) = D.lit (.int .i64 n) ∧ Br (n == 1) (∃ s, (x1.cell 1) = D.lit (.string s) ∧ ∀ a, N ≤ a → ACalls prog
 151 [.ag 3] [.sv a0 3 e0 c0, .str s] a (fun x c => a ≤ c → Bel c x → ∃ b : Bool, (x.cell 2) = D.lit (.bool b) ∧ ∀ a, c ≤ a → Q b a)) (∃ a b, ∃
 c : Nat, (x1.cell 8) = D.sl a 9 b c ∧ L_impl_places_isDynamic_4 Q N a0 e0 c0 a b c (b.length : Int) 0 x1 N)) : ACalls prog 102 [.bool] [PV.sv a0 3 e0 c0, PV.dg 9 x1] N Q :=
  eE (H := H_impl_places_isDynamic) (by kernel_rfl) (by kernel_rfl) h
theorem w_spec_l16Env (N : Nat) (a0 : Option Addr) (e0 : List D) (c0 : Nat) (Q : QT [.sl 2]) (h :
Bel N (D.sl a0 4 e0 c0) → L_spec_l16Env_3 Q N a0 e0 c0 0 0 0 [] 0 N) : ACalls prog 41 [.sl 2] [PV.sv a0 4 e0 c0] N Q :=
 eE (H := H_spec_l16Env) (by kernel_rfl) (by kernel_rfl) h
theorem w_spec_l16With (N : Nat) (a0 : Option Addr) (e0 : List D) (c0 : Nat) (s1 : ByteArray) (b2 : Bool) (Q : QT [.sl 2]) (h :
Bel N (D.sl a0 2 e0 c0) → (0 = 0 ∧ 0 = 0) ∧ apBound [] e0 24 ∧ ∀ (c : Nat), (([] ++ e0).length = ([] ++ e0).length ∧ c = c) ∧ apBound ([] ++ e0) [D.ag [D.lit (.string
 s1), D.lit (.bool b2)]] 24 ∧ ∀ (b : Nat), ((([] ++ e0) ++ [D.ag [D.lit (.string s1), D.lit (.bool b2)]]).length = (([] ++ e0) ++ [D.ag [D.lit (.string s1), D.lit
 (.bool b2)]]).length ∧ b = b) ∧ ((([] ++ e0) ++ [D.ag [D.lit (.string s1), D.lit (.bool b2)]]).length = (([] ++ e0) ++ [D.ag [D.lit (.string s1), D.lit (.bool
 b2)]]).length ∧ b = b) ∧ ∀ a c, N ≤ c → Fresh N c a [D.ag (([] ++ e0) ++ [D.ag [D.lit (.string s1), D.lit (.bool b2)]])] → ∀ d, c ≤ d → Q a (([]
 ++ e0) ++ [D.ag [D.lit (.string s1), D.lit (.bool b2)]]) b d) : ACalls prog 92 [.sl 2] [PV.sv a0 2 e0 c0, PV.str s1, PV.bool b2] N Q :=
  eE (H := H_spec_l16With) (by kernel_rfl) (by kernel_rfl) h
theorem w_spec_l16Late (N : Nat) (x0 : D) (a1 : Option Addr) (e1 : List D) (c1 : Nat) (Q : QT [.bool]) (h :
Bel N x0 → Bel N (D.sl a1 2 e1 c1) → ∃ n : Int, (x0.cell 0) = D.lit (.int .i64 n) ∧ Br (n == 1) (L_spec_l16Late_4 Q N a1 e1 c1 (IntKind.i64.wrap ((e1.length : Int)
 - 1)) x0 N) (Br (n == 8) (∃ a d, ∃ c : Nat, (x0.cell 8) = D.sl a 9 d c ∧ ((0 : Int) ≤ (0 : Int) ∧ 0 < (d.length : Int)) ∧ ∀ a, N ≤ a → ACalls prog 89 [.bool]
 [.dg 9 (List.getD d 0 default), .sv a1 2 e1 c1] a (fun b c => a ≤ c → Br b (∀ a, c ≤ a → Q true a) (∃ a d, ∃ e : Nat, (x0.cell 8) = D.sl
 a 9 d e ∧ ((0 : Int) ≤ (1 : Int) ∧ 1 < (d.length : Int)) ∧ ∃ s, (x0.cell 1) = D.lit (.string s) ∧ ∀ a, c ≤ a → ACalls prog 92 [.sl 2] [.sv a1 2 e1
 c1, .str s, .bool b] a (fun b c e f => a ≤ f → Bel f (D.sl b 2 c e) → ∀ a, f ≤ a → ACalls prog 89 [.bool] [.dg 9 (List.getD d 1
 default), .sv b 2 c e] a (fun b c => a ≤ c → ∀ a, c ≤ a → Q b a))))) (L_spec_l16Late_12 Q N a1 e1 c1 0 x0 N))) : ACalls prog 89 [.bool] [PV.dg 9 x0, PV.sv a1 2 e1 c1] N Q :=
  eE (H := H_spec_l16Late) (by kernel_rfl) (by kernel_rfl) h
theorem l_impl_times_3 (Q : QT [.sl 3]) (N0 : Nat) (a1 : Option Addr) (e1 : List D) (c1 m5 c5 : Nat) (a10 : Option Addr) (e10 : List D) (c10 : Nat) (n11 n12 : Int) (r0 : List D) (q0 : Nat) (N : Nat) (h :
Br (decide (n12 < n11)) ((0 ≤ n12 ∧ n12 < (e10.length : Int)) ∧ ∃ s, D.cell (List.getD e10 n12.toNat default) 0 = D.lit (.string s) ∧ ∃ b : Bool, D.cell (List.getD
 e10 n12.toNat default) 3 = D.lit (.bool b) ∧ ∃ d : Bool, D.cell (List.getD e10 n12.toNat default) 3 = D.lit (.bool d) ∧ Br (!d) (Br (decide ((e1.length : Int)
 > 0)) (((0 : Int) ≤ (0 : Int) ∧ 0 < (e1.length : Int)) ∧ ∃ n : Int, List.getD e1 0 default = D.lit (.int .i64 n) ∧ ((0 : Int) ≤ (1 : Int) ∧ 1 ≤ (e1.length : Int)
 ∧ (e1.length : Int) ≤ (e1.length : Int)) ∧ (m5 = r0.length ∧ c5 = q0) ∧ ∀ a, ApA a r0 → ∀ d, N ≤ d → BelA d [a] → ACalls prog 101 [.sl 3] [.sv a 3 r0 c5, .dg
 3 (D.ag [D.lit (.string s), D.lit (.int .i64 n), D.lit (.bool b)])] d (fun b c e f => d ≤ f → Off [a] (D.sl b 3 c e) ∧ (Bel f (D.sl b 3 c e) →
 L_impl_times_3_v1 Q N0 (if (c1 : Int) = 1 then a1 else Option.map (fun x => Addr.add x 1) a1) (List.drop 1 (List.take ((e1.length : Int)).toNat e1)) (c1 - 1 : Nat)
 b c e a10 e10 c10 n11 (IntKind.i64.wrap (n12 + 1)) f))) ((m5 = r0.length ∧ c5 = q0) ∧ ∀ a, ApA a r0 → ∀ c, N ≤ c → BelA c [a] → ACalls prog 101
 [.sl 3] [.sv a 3 r0 c5, .dg 3 (D.ag [D.lit (.string s), D.lit (.int .i64 0), D.lit (.bool b)])] c (fun b d e f => c ≤ f → Off [a] (D.sl b 3
 d e) ∧ (Bel f (D.sl b 3 d e) → L_impl_times_3_v1 Q N0 a1 e1 c1 b d e a10 e10 c10 n11 (IntKind.i64.wrap (n12 + 1)) f)))) ((m5 = r0.length ∧
 c5 = q0) ∧ ∀ a, ApA a r0 → ∀ c, N ≤ c → BelA c [a] → ACalls prog 101 [.sl 3] [.sv a 3 r0 c5, .dg 3 (D.ag [D.lit (.string s), D.lit (.int .i64 0), D.lit
 (.bool b)])] c (fun b d e f => c ≤ f → Off [a] (D.sl b 3 d e) ∧ (Bel f (D.sl b 3 d e) → L_impl_times_3_v1 Q N0 a1 e1 c1 b d
 e a10 e10 c10 n11 (IntKind.i64.wrap (n12 + 1)) f)))) ((m5 = r0.length ∧ c5 = q0) ∧ (m5 = r0.length ∧ c5 = q0) ∧ (m5 = r0.length ∧ c5 = q0) ∧ ∀ a b, N ≤ b
 → Fresh N0 b a [D.ag r0] → ∀ c, b ≤ c → Q a r0 q0 c)) : L_impl_times_3 Q N0 a1 e1 c1 m5 c5 a10 e10 c10 n11 n12 r0 q0 N :=
  hE (H := H_impl_times) (by kernel_rfl) h
theorem l_impl_places_isDynamic_4 (Q : QT [.bool]) (N0 : Nat) (a0 : Option Addr) (e0 : List D) (c0 : Nat) (a16 : Option Addr) (e16 : List D) (c16 : Nat) (n17 n18 : Int) (y0 : D) (N : Nat) (h :
Br (decide (n18 < n17)) ((0 ≤ n18 ∧ n18 < (e16.length : Int)) ∧ ∀ d, N ≤ d → ACalls prog 106 [.sl 3] [.sv a0 3 e0 c0, .dg 9 y0, .int .i64 n18] d (fun a c
 e f => d ≤ f → Bel f (D.sl a 3 c e) → ∀ d, f ≤ d → ACalls prog 102 [.bool] [.sv a 3 c e, .dg 9 (List.getD e16 n18.toNat default)] d (fun b a
 => d ≤ a → Br b (∀ b, a ≤ b → Q true b) (L_impl_places_isDynamic_4 Q N0 a0 e0 c0 a16 e16 c16 n17 (IntKind.i64.wrap (n18 + 1)) y0 a)))) (∀ a, N ≤
 a → Q false a)) : L_impl_places_isDynamic_4 Q N0 a0 e0 c0 a16 e16 c16 n17 n18 y0 N :=
  hE (H := H_impl_places_isDynamic) (by kernel_rfl) h
theorem l_spec_l16Env_3 (Q : QT [.sl 2]) (N0 : Nat) (a0 : Option Addr) (e0 : List D) (c0 m3 c3 : Nat) (n4 : Int) (r0 : List D) (q0 : Nat) (N : Nat) (h :
Br (decide (n4 < (e0.length : Int))) ((0 ≤ n4 ∧ n4 < (e0.length : Int)) ∧ ∃ s, (if 0 = 0 then D.cell (List.getD e0 n4.toNat default) 0 else D.sub (List.getD e0 n4.toNat
 default) 0 0) = D.lit (.string s) ∧ (0 ≤ n4 ∧ n4 < (e0.length : Int)) ∧ ∃ b : Bool, (if 0 = 0 then D.cell (List.getD e0 n4.toNat default) 3 else D.sub (List.getD
 e0 n4.toNat default) 3 0) = D.lit (.bool b) ∧ (m3 = r0.length ∧ c3 = q0) ∧ apBound r0 [D.ag [D.lit (.string s), D.lit (.bool b)]] 24 ∧ ∀ (c : Nat), L_spec_l16Env_3
 Q N0 a0 e0 c0 (r0 ++ [D.ag [D.lit (.string s), D.lit (.bool b)]]).length c (IntKind.i64.wrap (n4 + 1)) (r0 ++ [D.ag [D.lit (.string s), D.lit (.bool b)]]) c N) ((m3
 = r0.length ∧ c3 = q0) ∧ (m3 = r0.length ∧ c3 = q0) ∧ (m3 = r0.length ∧ c3 = q0) ∧ ∀ a b, N ≤ b → Fresh N0 b a [D.ag r0] → ∀ c, b ≤ c → Q a r0 q0 c) 
 ) : L_spec_l16Env_3 Q N0 a0 e0 c0 m3 c3 n4 r0 q0 N :=
  hE (H := H_spec_l16Env) (by kernel_rfl) h
theorem l_spec_l16Late_4 (Q : QT [.bool]) (N0 : Nat) (a1 : Option Addr) (e1 : List D) (c1 : Nat) (n5 : Int) (y0 : D) (N : Nat) (h :
Br (decide (n5 ≥ 0)) ((0 ≤ n5 ∧ n5 < (e1.length : Int)) ∧ ∃ s, (if 0 = 0 then D.cell (List.getD e1 n5.toNat default) 0 else D.sub (List.getD e1 n5.toNat default)
 0 0) = D.lit (.string s) ∧ ∃ a, (y0.cell 1) = D.lit (.string a) ∧ Br (ByteArray.toList s == ByteArray.toList a) ((0 ≤ n5 ∧ n5 < (e1.length : Int)) ∧ ∃ b :
 Bool, (if 0 = 0 then D.cell (List.getD e1 n5.toNat default) 1 else D.sub (List.getD e1 n5.toNat default) 1 0) = D.lit (.bool b) ∧ ∀ a, N ≤ a → Q b a) (L_spec_l16Late_4
 Q N0 a1 e1 c1 (IntKind.i64.wrap (n5 - 1)) y0 N)) (L_spec_l16Late_12 Q N0 a1 e1 c1 0 y0 N)) : L_spec_l16Late_4 Q N0 a1 e1 c1 n5 y0 N :=
  hE (H := H_spec_l16Late) (by kernel_rfl) h
theorem l_spec_l16Late_12 (Q : QT [.bool]) (N0 : Nat) (a1 : Option Addr) (e1 : List D) (c1 : Nat) (n7 : Int) (y0 : D) (N : Nat) (h :
∃ a d, ∃ c : Nat, (y0.cell 8) = D.sl a 9 d c ∧ Br (decide (n7 < (d.length : Int))) (∃ a c, ∃ d : Nat, (y0.cell 8) = D.sl a 9 c d ∧ (0 ≤ n7 ∧ n7
 < (c.length : Int)) ∧ ∀ a, N ≤ a → ACalls prog 89 [.bool] [.dg 9 (List.getD c n7.toNat default), .sv a1 2 e1 c1] a (fun b c => a ≤ c → Br b (∀
 a, c ≤ a → Q true a) (L_spec_l16Late_12 Q N0 a1 e1 c1 (IntKind.i64.wrap (n7 + 1)) y0 c))) (∀ a, N ≤ a → Q false a)) : L_spec_l16Late_12 Q N0 a1 e1 c1 n7 y0 N :=
  hE (H := H_spec_l16Late) (by kernel_rfl) h
theorem l_impl_times_3_v1 (Q : QT [.sl 3]) (N0 : Nat) (a1 : Option Addr) (e1 : List D) (c1 : Nat) (a5 : Option Addr) (e5 : List D) (c5 : Nat) (a10 : Option Addr) (e10 : List D) (c10 : Nat) (n11 n12 : Int) (N : Nat) (h :
Br (decide (n12 < n11)) ((0 ≤ n12 ∧ n12 < (e10.length : Int)) ∧ ∃ s, D.cell (List.getD e10 n12.toNat default) 0 = D.lit (.string s) ∧ ∃ b : Bool, D.cell (List.getD
 e10 n12.toNat default) 3 = D.lit (.bool b) ∧ ∃ d : Bool, D.cell (List.getD e10 n12.toNat default) 3 = D.lit (.bool d) ∧ Br (!d) (Br (decide ((e1.length : Int)
 > 0)) (((0 : Int) ≤ (0 : Int) ∧ 0 < (e1.length : Int)) ∧ ∃ n : Int, List.getD e1 0 default = D.lit (.int .i64 n) ∧ ((0 : Int) ≤ (1 : Int) ∧ 1 ≤ (e1.length : Int)
 ∧ (e1.length : Int) ≤ (e1.length : Int)) ∧ ∀ d, N ≤ d → ACalls prog 101 [.sl 3] [.sv a5 3 e5 c5, .dg 3 (D.ag [D.lit (.string s), D.lit (.int .i64 n), D.lit (.bool
 b)])] d (fun a b c e => d ≤ e → Bel e (D.sl a 3 b c) → L_impl_times_3_v1 Q N0 (if (c1 : Int) = 1 then a1 else Option.map (fun x => Addr.add x 1) a1)
 (List.drop 1 (List.take ((e1.length : Int)).toNat e1)) (c1 - 1 : Nat) a b c a10 e10 c10 n11 (IntKind.i64.wrap (n12 + 1)) e)) (∀ a, N ≤ a → ACalls prog 101
 [.sl 3] [.sv a5 3 e5 c5, .dg 3 (D.ag [D.lit (.string s), D.lit (.int .i64 0), D.lit (.bool b)])] a (fun b c d e => a ≤ e → Bel e (D.sl b 3 c
 d) → L_impl_times_3_v1 Q N0 a1 e1 c1 b c d a10 e10 c10 n11 (IntKind.i64.wrap (n12 + 1)) e))) (∀ a, N ≤ a → ACalls prog 101 [.sl 3] [.sv a5 3 e5 c5,
 .dg 3 (D.ag [D.lit (.string s), D.lit (.int .i64 0), D.lit (.bool b)])] a (fun b c d e => a ≤ e → Bel e (D.sl b 3 c d) → L_impl_times_3_v1
 Q N0 a1 e1 c1 b c d a10 e10 c10 n11 (IntKind.i64.wrap (n12 + 1)) e))) (∀ a, N ≤ a → Q a5 e5 c5 a)) : L_impl_times_3_v1 Q N0 a1 e1 c1 a5 e5 c5 a10 e10 c10 n11 n12 N :=
  hE (H := H_impl_times) (by kernel_rfl) h

end Go.Proofs.YtfkmegifjiiclaaGreat

/- Printed by gen.py: what the functions come to. -/
set_option linter.unusedVariables false
set_option maxRecDepth 100000
namespace Go.Proofs.YtfkmegifjiiclaaGreat
open Go Go.Proofs Go.Proofs.Tryz
end Go.Proofs.YtfkmegifjiiclaaGreat

/- Printed by gen.py: what the functions come to. -/
set_option linter.unusedVariables false
set_option maxRecDepth 100000
namespace Go.Proofs.YtfkmegifjiiclaaGreat
open Go Go.Proofs Go.Proofs.Tryz
end Go.Proofs.YtfkmegifjiiclaaGreat

/- Printed by gen.py: what the functions come to. -/
set_option linter.unusedVariables false
set_option maxRecDepth 100000
namespace Go.Proofs.YtfkmegifjiiclaaGreat
open Go Go.Proofs Go.Proofs.Tryz
def H_spec_l5Copy : Hint := ⟨[hc 3 [1, 2, 3, 4] [] [(3, 8, 36, 9)]], [], [(1, [en 0, en 1, en 2, en 3, en 4, en 5, en 6, en 7, en 8, en 9, en 11, en 12, en 15, { i := 10, hard := true, cl := [14], fs := [3, 14] }, { i := 13, hard := true, cl := [17], fs := [3, 17] }, en 14, eh 16]), (5, [en 0, en 1, en 2, en 3, en 4, en 5, en 6, { i := 7, hard := true, cl := [33], fs := [3, 33] }, { i := 8, hard := true, cl := [34], fs := [3, 34] }, eh 9, en 10, eh 11])]⟩
def H_spec_l5Node : Hint := ⟨[hc 3 [1, 4, 5, 6] [] [(5, 8, 36, 9)]], [], [(5, [en 0, en 1, en 2, en 3, en 4, en 5, { i := 6, hard := true, cl := [20], fs := [5, 20] }, { i := 7, hard := true, cl := [21], fs := [5, 21] }, eh 8, en 9, eh 10])]⟩
def H_spec_l5Let : Hint := ⟨[], [], []⟩
def H_spec_l17Quote : Hint := ⟨[], [], []⟩
def H_spec_l17Splice : Hint := ⟨[], [], []⟩
def H_spec_l17All : Hint := ⟨[hc 3 [1, 2, 4, 5, 6]], [], [(1, hs 4 [ec 1 [8]]), (8, [en 0, en 1, en 2, en 3, en 4, en 5, en 6, en 7, en 8, ec 9 [36], ec 10 [38], en 11, eh 12]), (9, hs 3 [ec 1 [41]])]⟩
def H_spec_l17Code : Hint := ⟨[], [], [(1, hs 5 [ec 2 [6]]), (4, hs 3 [ec 1 [17]]), (5, hs 13 [ec 9 [27]]), (6, [en 0, en 1, en 2, en 3, en 4, en 5, en 6, en 7, en 8, en 10, en 11, en 12, en 13, en 14, ec 9 [39], ec 15 [45], en 16, eh 17, eh 18]), (7, hs 13 [ec 9 [58]]), (8, [en 0, en 1, en 2, en 3, en 4, en 5, en 6, en 7, en 8, en 9, en 10, en 11, en 12, eh 13, ec 14 [72], ec 15 [68, 77], eh 16]), (9, hs 4 [ec 2 [79]])]⟩
def H_spec_CodeFor : Hint := ⟨[], [], [(1, hs 9 [ec 2 [9]]), (4, [en 0, en 1, eh 2, ec 3 [16], eh 4])]⟩
def H_impl_Term_node : Hint := ⟨[], [], [(1, [en 0, en 1, en 2, en 3, en 4, en 5, en 6, en 7, en 8, en 9, en 11, en 12, en 14, ec 10 [14], ec 13 [17], en 15, eh 16])]⟩
def H_impl_Term_mapped : Hint := ⟨[hc 3 [1, 2, 4, 5, 10, 11, 12] [(5, 36, 9)]], [], [(5, hs 7 [ec 3 [18]]), (7, hs 4 [ec 2 [23, 24]])]⟩
def H_impl_Term_own : Hint := ⟨[], [], [(1, hs 3 [ec 1 [3]])]⟩
def H_impl_tmForm : Hint := ⟨[], [], []⟩
def H_impl_quoted : Hint := ⟨[], [], [(1, hs 4 [ec 2 [4]])]⟩
def H_impl_spliced : Hint := ⟨[], [], [(1, hs 4 [ec 2 [4]])]⟩
def H_impl_places_code_1 : Hint := ⟨[], [], [(1, [en 0, en 1, en 2, en 4, en 5, en 6, en 7, en 8, ec 3 [6], ec 9 [13], eh 10])]⟩
def H_impl_places_code : Hint := ⟨[hc 9 [3, 4, 5, 6, 7] [(6, 36, 9)], hc 15 [3, 4, 5, 8, 62, 63] [(8, 36, 9)]], [], [(1, hs 4 [ec 2 [10, 11]]), (2, hs 5 [ec 1 [14], ec 3 [16]]), (4, hs 4 [ec 1 [21], ec 2 [22]]), (6, [en 0, en 1, en 2, en 3, en 4, en 5, en 6, en 7, en 8, ec 9 [29, 33], en 10, en 11]), (7, hs 7 [ec 4 [40]]), (12, hs 4 [ec 2 [56, 57]]), (17, hs 8 [ec 4 [69]]), (19, hs 5 [ec 2 [74, 75], ec 3 [76]])]⟩
def H_impl_CodeFor : Hint := ⟨[], [], [(1, hs 9 [ec 2 [9]]), (4, [en 0, en 2, eh 1, ec 3 [18], eh 4])]⟩
def H_laws_heldTermS : Hint := ⟨[hc 2 [0, 1, 5]], [], [(7, [en 0, en 1, en 2, en 3, en 4, en 5, eh 6, en 7]), (10, [en 0, en 1, en 2, en 3, en 4, en 5, eh 6, en 7])]⟩
def H_laws_heldTerm : Hint := ⟨[], [], [(1, hs 5 [ec 3 [6]]), (4, hs 5 [ec 3 [12]])]⟩
def L_spec_l5Copy_3 (Q : QT [.pk, .int .i64, .str, .str, .int .i64, .dc, .dc, .dc, .dc, .row 36 9]) (N0 : Nat) (n4 : Int) (y0 : D) (n1_0 : Int) (s1_1 s1_2 : ByteArray) (n1_3 n1_4 : Int) (a1_5 : Option Addr) (e1_5 : List D) (c1_5 : Nat) (n1_6 : Int) (a1_7 : Option Addr) (e1_7 : List D) (c1_7 : Nat) (a1_8 : Option Addr) (e1_8 : List D) (c1_8 : Nat) (n2_0 : Int) (s2_1 s2_2 : ByteArray) (n2_3 : Int) (x2_4 x2_5 x2_6 x2_7 : D) (m2_8 c2_8 : Nat) (r3 : List D) (q3 : Nat) (N : Nat) : Prop := AT prog 75 [.pk, .int .i64, .str, .str, .int .i64, .dc, .dc, .dc, .dc, .row 36 9] Q N0 .ord (loopAt prog 75 3) ⟨an 1 (.pb 0 0 0 0 :: .pb 1 0 0 0 :: .pb 2 0 0 0 :: .int .i64 n4 :: an 34 []), [.vd y0 9, .var [.int .i64 n1_0, .str s1_1, .str s1_2, .int .i64 n1_3, .int .i64 n1_4, .sv a1_5 2 e1_5 c1_5, .int .i64 n1_6, .sv a1_7 2 e1_7 c1_7, .sv a1_8 9 e1_8 c1_8], .var [.int .i64 n2_0, .str s2_1, .str s2_2, .int .i64 n2_3, .dc x2_4, .dc x2_5, .dc x2_6, .dc x2_7, .sb 3 9 0 m2_8 c2_8], .arr 36 9 r3 q3], N, none⟩
def L_spec_l5Node_3 (Q : QT [.ag 9]) (N0 : Nat) (a1 : Option Addr) (e1 : List D) (c1 : Nat) (n6 n0_0 : Int) (s0_1 s0_2 : ByteArray) (n0_3 n0_4 : Int) (a0_5 : Option Addr) (e0_5 : List D) (c0_5 : Nat) (n0_6 : Int) (a0_7 : Option Addr) (e0_7 : List D) (c0_7 : Nat) (a0_8 : Option Addr) (e0_8 : List D) (c0_8 : Nat) (n1_0 : Int) (s1_1 s1_2 : ByteArray) (n1_3 n1_4 : Int) (a1_5 : Option Addr) (e1_5 : List D) (c1_5 : Nat) (n1_6 : Int) (a1_7 : Option Addr) (e1_7 : List D) (c1_7 m1_8 c1_8 : Nat) (r2 : List D) (q2 : Nat) (N : Nat) : Prop := AT prog 90 [.ag 9] Q N0 .ord (loopAt prog 90 3) ⟨an 1 (.sv a1 9 e1 c1 :: an 2 (.pb 0 0 0 0 :: .pb 1 0 0 0 :: .int .i64 n6 :: an 19 [])), [.var [.int .i64 n0_0, .str s0_1, .str s0_2, .int .i64 n0_3, .int .i64 n0_4, .sv a0_5 2 e0_5 c0_5, .int .i64 n0_6, .sv a0_7 2 e0_7 c0_7, .sv a0_8 9 e0_8 c0_8], .var [.int .i64 n1_0, .str s1_1, .str s1_2, .int .i64 n1_3, .int .i64 n1_4, .sv a1_5 2 e1_5 c1_5, .int .i64 n1_6, .sv a1_7 2 e1_7 c1_7, .sb 2 9 0 m1_8 c1_8], .arr 36 9 r2 q2], N, none⟩
def L_spec_l17All_3 (Q : QT [.ag 9]) (N0 : Nat) (a1 : Option Addr) (e1 : List D) (c1 : Nat) (n6 : Int) (y0 : D) (n1_0 : Int) (s1_1 s1_2 : ByteArray) (n1_3 n1_4 : Int) (a1_5 : Option Addr) (e1_5 : List D) (c1_5 : Nat) (n1_6 : Int) (a1_7 : Option Addr) (e1_7 : List D) (c1_7 : Nat) (a1_8 : Option Addr) (e1_8 : List D) (c1_8 : Nat) (n2_0 : Int) (s2_1 s2_2 : ByteArray) (n2_3 : Int) (x2_4 x2_5 x2_6 x2_7 : D) (m2_8 c2_8 : Nat) (r3 : List D) (q3 : Nat) (N : Nat) : Prop := AT prog 93 [.ag 9] Q N0 .ord (loopAt prog 93 3) ⟨an 1 (.sv a1 2 e1 c1 :: .pb 0 0 0 0 :: an 1 (.pb 1 0 0 0 :: .pb 2 0 0 0 :: .int .i64 n6 :: an 36 [])), [.vd y0 9, .var [.int .i64 n1_0, .str s1_1, .str s1_2, .int .i64 n1_3, .int .i64 n1_4, .sv a1_5 2 e1_5 c1_5, .int .i64 n1_6, .sv a1_7 2 e1_7 c1_7, .sv a1_8 9 e1_8 c1_8], .var [.int .i64 n2_0, .str s2_1, .str s2_2, .int .i64 n2_3, .dc x2_4, .dc x2_5, .dc x2_6, .dc x2_7, .sb 3 9 0 m2_8 c2_8], .arr 36 9 r3 q3], N, none⟩
def L_impl_places_code_9 (Q : QT [.ag 9]) (N0 : Nat) (m6 c6 : Nat) (n7 : Int) (y0 : D) (n1_0 : Int) (s1_1 s1_2 : ByteArray) (n1_3 n1_4 : Int) (a1_5 : Option Addr) (e1_5 : List D) (c1_5 : Nat) (n1_6 : Int) (a1_7 : Option Addr) (e1_7 : List D) (c1_7 : Nat) (a1_8 : Option Addr) (e1_8 : List D) (c1_8 : Nat) (a2_0 : Option Addr) (e2_0 : List D) (c2_0 : Nat) (r3 : List D) (q3 : Nat) (N : Nat) : Prop := AT prog 47 [.ag 9] Q N0 .ord (loopAt prog 47 9) ⟨an 3 (.pb 0 0 0 0 :: .pb 1 0 0 0 :: .fn 105 [.pb 2 0 0 0, .pb 0 0 0 0] :: .sb 3 9 0 m6 c6 :: .int .i64 n7 :: an 70 []), [.vd y0 9, .var [.int .i64 n1_0, .str s1_1, .str s1_2, .int .i64 n1_3, .int .i64 n1_4, .sv a1_5 2 e1_5 c1_5, .int .i64 n1_6, .sv a1_7 2 e1_7 c1_7, .sv a1_8 9 e1_8 c1_8], .var [.sv a2_0 3 e2_0 c2_0], .arr 36 9 r3 q3], N, none⟩
def L_impl_places_code_15 (Q : QT [.ag 9]) (N0 : Nat) (m8 c8 : Nat) (n62 n63 : Int) (y0 : D) (n1_0 : Int) (s1_1 s1_2 : ByteArray) (n1_3 n1_4 : Int) (a1_5 : Option Addr) (e1_5 : List D) (c1_5 : Nat) (n1_6 : Int) (a1_7 : Option Addr) (e1_7 : List D) (c1_7 : Nat) (a1_8 : Option Addr) (e1_8 : List D) (c1_8 : Nat) (a2_0 : Option Addr) (e2_0 : List D) (c2_0 : Nat) (r3 : List D) (q3 : Nat) (N : Nat) : Prop := AT prog 47 [.ag 9] Q N0 .ord (loopAt prog 47 15) ⟨an 3 (.pb 0 0 0 0 :: .pb 1 0 0 0 :: .fn 105 [.pb 2 0 0 0, .pb 0 0 0 0] :: an 2 (.sb 3 9 0 m8 c8 :: an 53 (.int .i64 n62 :: .int .i64 n63 :: an 14 []))), [.vd y0 9, .var [.int .i64 n1_0, .str s1_1, .str s1_2, .int .i64 n1_3, .int .i64 n1_4, .sv a1_5 2 e1_5 c1_5, .int .i64 n1_6, .sv a1_7 2 e1_7 c1_7, .sv a1_8 9 e1_8 c1_8], .var [.sv a2_0 3 e2_0 c2_0], .arr 36 9 r3 q3], N, none⟩
def L_laws_heldTermS_2 (Q : QT [.int .i64]) (N0 : Nat) (a0 : Option Addr) (e0 : List D) (c0 : Nat) (n1 n5 : Int) (N : Nat) : Prop := AT prog 35 [.int .i64] Q N0 .ord (loopAt prog 35 2) ⟨.sv a0 9 e0 c0 :: .int .i64 n1 :: an 3 (.int .i64 n5 :: an 94 []), [], N, none⟩
def L_impl_Term_mapped_3 (Q : QT [.ag 9]) (N0 : Nat) (m5 c5 : Nat) (a10 : Option Addr) (e10 : List D) (c10 : Nat) (n11 n12 : Int) (y0 : D) (n1_0 : Int) (s1_1 s1_2 : ByteArray) (n1_3 n1_4 : Int) (a1_5 : Option Addr) (e1_5 : List D) (c1_5 : Nat) (n1_6 : Int) (a1_7 : Option Addr) (e1_7 : List D) (c1_7 : Nat) (a1_8 : Option Addr) (e1_8 : List D) (c1_8 : Nat) (r2 : List D) (q2 : Nat) (N : Nat) : Prop := AT prog 152 [.ag 9] Q N0 .ord (loopAt prog 152 3) ⟨an 1 (.fn 104 [] :: .pb 0 0 0 0 :: an 1 (.pb 1 0 0 0 :: .sb 2 9 0 m5 c5 :: an 4 (.sv a10 9 e10 c10 :: .int .i64 n11 :: .int .i64 n12 :: an 13 []))), [.vd y0 9, .var [.int .i64 n1_0, .str s1_1, .str s1_2, .int .i64 n1_3, .int .i64 n1_4, .sv a1_5 2 e1_5 c1_5, .int .i64 n1_6, .sv a1_7 2 e1_7 c1_7, .sv a1_8 9 e1_8 c1_8], .arr 36 9 r2 q2], N, none⟩
theorem w_spec_l5Copy (N : Nat) (x0 : D) (Q : QT [.pk, .int .i64, .str, .str, .int .i64, .dc, .dc, .dc, .dc, .row 36 9]) (h :
Bel N x0 → ∃ n : Int, (x0.cell 0) = D.lit (.int .i64 n) ∧ ∃ s, (x0.cell 1) = D.lit (.string s) ∧ ∃ a, (x0.cell 2) = D.lit (.string a) ∧ ∃ b : Int, (x0.cell
 3) = D.lit (.int .i64 b) ∧ ∀ c, N ≤ c → ACalls prog 109 [.ag 2] [.dg 2 (D.sub x0 4 2)] c (fun x d => c ≤ d → Bel d x → ∀ c, d ≤ c → ACalls
 prog 109 [.ag 2] [.dg 2 (D.sub x0 6 2)] c (fun d e => c ≤ e → Bel e d → L_spec_l5Copy_3 Q N 0 x0 0 (bytes []) (bytes []) 0 0 Option.none [] 0 0 Option.none
 [] 0 Option.none [] 0 n s a b (x.cell 0) (x.cell 1) (d.cell 0) (d.cell 1) 0 0 [] 0 e))) : ACalls prog 75 [.pk, .int .i64, .str, .str, .int .i64, .dc, .dc, .dc, .dc, .row 36 9] [PV.dg 9 x0] N Q :=
  eE (H := H_spec_l5Copy) (by kernel_rfl) (by kernel_rfl) h
theorem w_spec_l5Node (N : Nat) (n0 : Int) (a1 : Option Addr) (e1 : List D) (c1 : Nat) (Q : QT [.ag 9]) (h :
Bel N (D.sl a1 9 e1 c1) → L_spec_l5Node_3 Q N a1 e1 c1 0 0 (bytes []) (bytes []) 0 0 Option.none [] 0 0 Option.none [] 0 Option.none [] 0 n0 (bytes []) (bytes [])
 0 0 Option.none [] 0 0 Option.none [] 0 0 0 [] 0 N) : ACalls prog 90 [.ag 9] [PV.int .i64 n0, PV.sv a1 9 e1 c1] N Q :=
  eE (H := H_spec_l5Node) (by kernel_rfl) (by kernel_rfl) h
theorem w_spec_l5Let (N : Nat) (s0 : ByteArray) (x1 x2 : D) (Q : QT [.ag 9]) (h :
Bel N x1 → Bel N x2 → (2 = ([x1, x2]).length ∧ 2 = 2) ∧ ∀ a, ApA a [x1, x2] → ∀ b, N ≤ b → BelA b [a] → ACalls prog 90 [.ag 9] [.int .i64 8, .sv a 9 [x1, x2]
 2] b (fun x c => b ≤ c → Off [a] x ∧ (Bel c x → ∀ a, c ≤ a → Q (D.ag [(x.cell 0), D.lit (.string s0), (x.cell 2), (x.cell 3), (x.cell 4), (x.cell
 5), (x.cell 6), (x.cell 7), (x.cell 8)]) a))) : ACalls prog 91 [.ag 9] [PV.str s0, PV.dg 9 x1, PV.dg 9 x2] N Q :=
  eE (H := H_spec_l5Let) (by kernel_rfl) (by kernel_rfl) h
theorem w_spec_l17Quote (N : Nat) (x0 : D) (Q : QT [.ag 9]) (h :
Bel N x0 → (1 = ([x0]).length ∧ 1 = 1) ∧ ∀ a, ApA a [x0] → ∀ b, N ≤ b → BelA b [a] → ACalls prog 90 [.ag 9] [.int .i64 10, .sv a 9 [x0] 1] b (fun x c =>
 b ≤ c → Off [a] x ∧ (Bel c x → ∀ a, c ≤ a → Q x a))) : ACalls prog 65 [.ag 9] [PV.dg 9 x0] N Q :=
  eE (H := H_spec_l17Quote) (by kernel_rfl) (by kernel_rfl) h
theorem w_spec_l17Splice (N : Nat) (x0 : D) (Q : QT [.ag 9]) (h :
Bel N x0 → (1 = ([x0]).length ∧ 1 = 1) ∧ ∀ a, ApA a [x0] → ∀ b, N ≤ b → BelA b [a] → ACalls prog 90 [.ag 9] [.int .i64 11, .sv a 9 [x0] 1] b (fun x c =>
 b ≤ c → Off [a] x ∧ (Bel c x → ∀ a, c ≤ a → Q x a))) : ACalls prog 66 [.ag 9] [PV.dg 9 x0] N Q :=
  eE (H := H_spec_l17Splice) (by kernel_rfl) (by kernel_rfl) h
theorem w_spec_l17All (N : Nat) (x0 : D) (a1 : Option Addr) (e1 : List D) (c1 : Nat) (Q : QT [.ag 9]) (h :
Bel N x0 → Bel N (D.sl a1 2 e1 c1) → ∀ a, N ≤ a → ACalls prog 75 [Sh.pk, .int .i64, .str, .str, .int .i64, Sh.dc, Sh.dc, Sh.dc, Sh.dc, .row (OfNat.ofNat 36)
 9] [.dg 9 x0] a (fun n s b c x d e f g h i => a ≤ i → Bel i (D.ag g) → L_spec_l17All_3 Q N a1 e1 c1 0 x0 0 (bytes []) (bytes []) 0 0 Option.none
 [] 0 0 Option.none [] 0 Option.none [] 0 n s b c x d e f g.length h g h i)) : ACalls prog 93 [.ag 9] [PV.dg 9 x0, PV.sv a1 2 e1 c1] N Q :=
  eE (H := H_spec_l17All) (by kernel_rfl) (by kernel_rfl) h
theorem w_spec_l17Code (N : Nat) (x0 : D) (a1 : Option Addr) (e1 : List D) (c1 : Nat) (Q : QT [.ag 9]) (h :
Bel N x0 → Bel N (D.sl a1 2 e1 c1) → ∀ d, N ≤ d → ACalls prog 89 [.bool] [.dg 9 x0, .sv a1 2 e1 c1] d (fun b e => d ≤ e → Br (!b) ((1 = ([x0]).length
 ∧ 1 = 1) ∧ ∀ a, ApA a [x0] → ∀ b, e ≤ b → BelA b [a] → ACalls prog 90 [.ag 9] [.int .i64 13, .sv a 9 [x0] 1] b (fun x c => b ≤ c → Off [a] x ∧ (Bel
 c x → ∀ a, c ≤ a → Q x a))) (∃ n : Int, (x0.cell 0) = D.lit (.int .i64 n) ∧ Br (n == 1) (∀ a, e ≤ a → ACalls prog 65 [.ag 9] [.dg 9 x0] a (fun
 b c => a ≤ c → Bel c b → ∀ a, c ≤ a → Q b a)) (∃ a : Int, (x0.cell 0) = D.lit (.int .i64 a) ∧ Br (a == 5) (∃ a b, ∃ c : Nat, (x0.cell
 8) = D.sl a 9 b c ∧ ((0 : Int) ≤ (0 : Int) ∧ 0 < (b.length : Int)) ∧ ∀ a, e ≤ a → ACalls prog 89 [.bool] [.dg 9 (List.getD b 0 default), .sv a1 2 e1 c1]
 a (fun b c => a ≤ c → Br (!b) (∃ a b, ∃ d : Nat, (x0.cell 8) = D.sl a 9 b d ∧ ((0 : Int) ≤ (0 : Int) ∧ 0 < (b.length : Int)) ∧ ∃ a
 d, ∃ e : Nat, (x0.cell 8) = D.sl a 9 d e ∧ ((0 : Int) ≤ (1 : Int) ∧ 1 < (d.length : Int)) ∧ ∃ a e, ∃ f : Nat, (x0.cell 8) = D.sl a 9 e
 f ∧ ((0 : Int) ≤ (2 : Int) ∧ 2 < (e.length : Int)) ∧ ∀ a, c ≤ a → ACalls prog 40 [.ag 9] [.dg 9 (List.getD d 1 default), .sv a1 2 e1 c1] a (fun
 c d => a ≤ d → Bel d c → ∀ a, d ≤ a → ACalls prog 40 [.ag 9] [.dg 9 (List.getD e 2 default), .sv a1 2 e1 c1] a (fun d e => a
 ≤ e → Bel e d → (3 = ([List.getD b 0 default, c, d]).length ∧ 3 = 3) ∧ ∀ a, ApA a [List.getD b 0 default, c, d] → ∀ f, e ≤ f →
 BelA f [a] → ACalls prog 90 [.ag 9] [.int .i64 5, .sv a 9 [List.getD b 0 default, c, d] 3] f (fun b c => f ≤ c → Off [a] b ∧ (Bel
 c b → ∀ a, c ≤ a → Q b a))))) (∃ a : Int, (x0.cell 0) = D.lit (.int .i64 a) ∧ Br (a == 8) (∃ a b, ∃ d : Nat, (x0.cell 8) = D.sl a
 9 b d ∧ ((0 : Int) ≤ (0 : Int) ∧ 0 < (b.length : Int)) ∧ ∀ a, c ≤ a → ACalls prog 89 [.bool] [.dg 9 (List.getD b 0 default), .sv a1 2 e1 c1]
 a (fun b c => a ≤ c → Br (!b) (∃ s, (x0.cell 1) = D.lit (.string s) ∧ ∃ a b, ∃ d : Nat, (x0.cell 8) = D.sl a 9 b d ∧ ((0 : Int) ≤ (0
 : Int) ∧ 0 < (b.length : Int)) ∧ ∃ a d, ∃ e : Nat, (x0.cell 8) = D.sl a 9 d e ∧ ((0 : Int) ≤ (1 : Int) ∧ 1 < (d.length : Int)) ∧ ∃ a, (x0.cell
 1) = D.lit (.string a) ∧ ∀ e, c ≤ e → ACalls prog 92 [.sl 2] [.sv a1 2 e1 c1, .str a, .bool false] e (fun a c f g => e ≤ g → Bel
 g (D.sl a 2 c f) → ∀ e, g ≤ e → ACalls prog 40 [.ag 9] [.dg 9 (List.getD d 1 default), .sv a 2 c f] e (fun a c => e ≤ c
 → Bel c a → ∀ d, c ≤ d → ACalls prog 91 [.ag 9] [.str s, .dg 9 (List.getD b 0 default), .dg 9 a] d (fun a b => d ≤ b → Bel b
 a → ∀ c, b ≤ c → Q a c)))) (∀ a, c ≤ a → ACalls prog 93 [.ag 9] [.dg 9 x0, .sv a1 2 e1 c1] a (fun b c => a ≤ c → Bel c
 b → ∀ a, c ≤ a → Q b a)))) (∀ a, c ≤ a → ACalls prog 93 [.ag 9] [.dg 9 x0, .sv a1 2 e1 c1] a (fun b c => a ≤ c → Bel c
 b → ∀ a, c ≤ a → Q b a))))) (∃ a : Int, (x0.cell 0) = D.lit (.int .i64 a) ∧ Br (a == 8) (∃ a b, ∃ c : Nat, (x0.cell 8) = D.sl a
 9 b c ∧ ((0 : Int) ≤ (0 : Int) ∧ 0 < (b.length : Int)) ∧ ∀ a, e ≤ a → ACalls prog 89 [.bool] [.dg 9 (List.getD b 0 default), .sv a1 2 e1 c1] a
 (fun b c => a ≤ c → Br (!b) (∃ a, (x0.cell 1) = D.lit (.string a) ∧ ∃ b d, ∃ e : Nat, (x0.cell 8) = D.sl b 9 d e ∧ ((0 : Int) ≤
 (0 : Int) ∧ 0 < (d.length : Int)) ∧ ∃ b e, ∃ f : Nat, (x0.cell 8) = D.sl b 9 e f ∧ ((0 : Int) ≤ (1 : Int) ∧ 1 < (e.length : Int)) ∧ ∃
 b, (x0.cell 1) = D.lit (.string b) ∧ ∀ f, c ≤ f → ACalls prog 92 [.sl 2] [.sv a1 2 e1 c1, .str b, .bool false] f (fun b c g h => f
 ≤ h → Bel h (D.sl b 2 c g) → ∀ f, h ≤ f → ACalls prog 40 [.ag 9] [.dg 9 (List.getD e 1 default), .sv b 2 c g] f (fun b
 c => f ≤ c → Bel c b → ∀ e, c ≤ e → ACalls prog 91 [.ag 9] [.str a, .dg 9 (List.getD d 0 default), .dg 9 b] e (fun a b =>
 e ≤ b → Bel b a → ∀ c, b ≤ c → Q a c)))) (∀ a, c ≤ a → ACalls prog 93 [.ag 9] [.dg 9 x0, .sv a1 2 e1 c1] a (fun b c
 => a ≤ c → Bel c b → ∀ a, c ≤ a → Q b a)))) (∀ a, e ≤ a → ACalls prog 93 [.ag 9] [.dg 9 x0, .sv a1 2 e1 c1] a (fun b c
 => a ≤ c → Bel c b → ∀ a, c ≤ a → Q b a))))))) : ACalls prog 40 [.ag 9] [PV.dg 9 x0, PV.sv a1 2 e1 c1] N Q :=
  eE (H := H_spec_l17Code) (by kernel_rfl) (by kernel_rfl) h
theorem w_spec_CodeFor (N : Nat) (a0 : Option Addr) (e0 : List D) (c0 : Nat) (x1 : D) (Q : QT [.ag 9]) (h :
Bel N (D.sl a0 4 e0 c0) → Bel N x1 → ∀ d, N ≤ d → ACalls prog 39 [.ag 2, .bool] [.sv a0 4 e0 c0, .dg 9 x1] d (fun x b e => d ≤ e → Bel e x → Br (!b)
 (∀ a, e ≤ a → Q (D.ag [D.lit (.int .i64 0), D.lit (.string (bytes [])), D.lit (.string (bytes [])), D.lit (.int .i64 0), D.lit (.int .i64 0), D.sl Option.none
 2 [] 0, D.lit (.int .i64 0), D.sl Option.none 2 [] 0, D.sl Option.none 9 [] 0]) a) (∀ b, e ≤ b → ACalls prog 41 [.sl 2] [.sv a0 4 e0 c0] b (fun a c d
 e => b ≤ e → Bel e (D.sl a 2 c d) → ∀ b, e ≤ b → ACalls prog 40 [.ag 9] [.dg 9 x1, .sv a 2 c d] b (fun a c => b ≤ c → Bel c a → ∀ b,
 c ≤ b → Q a b))))) : ACalls prog 11 [.ag 9] [PV.sv a0 4 e0 c0, PV.dg 9 x1] N Q :=
  eE (H := H_spec_CodeFor) (by kernel_rfl) (by kernel_rfl) h
theorem w_impl_Term_node (N : Nat) (x0 : D) (a1 : Option Addr) (e1 : List D) (c1 : Nat) (Q : QT [.ag 9]) (h :
Bel N x0 → Bel N (D.sl a1 9 e1 c1) → ∃ n : Int, (x0.cell 0) = D.lit (.int .i64 n) ∧ ∃ s, (x0.cell 1) = D.lit (.string s) ∧ ∃ a, (x0.cell 2) = D.lit (.string a)
 ∧ ∃ b : Int, (x0.cell 3) = D.lit (.int .i64 b) ∧ ∀ c, N ≤ c → ACalls prog 111 [.ag 2] [.dg 2 (D.sub x0 4 2)] c (fun x d => c ≤ d → Bel d x → ∀
 c, d ≤ c → ACalls prog 111 [.ag 2] [.dg 2 (D.sub x0 6 2)] c (fun d e => c ≤ e → Bel e d → ∀ c, e ≤ c → Q (D.ag [D.lit (.int .i64 n), D.lit
 (.string s), D.lit (.string a), D.lit (.int .i64 b), (x.cell 0), (x.cell 1), (d.cell 0), (d.cell 1), D.sl a1 9 e1 c1]) c))) : ACalls prog 107 [.ag 9] [PV.dg 9 x0, PV.sv a1 9 e1 c1] N Q :=
  eE (H := H_impl_Term_node) (by kernel_rfl) (by kernel_rfl) h
theorem w_impl_Term_own (N : Nat) (x0 : D) (Q : QT [.ag 9]) (h :
Bel N x0 → ∀ a, N ≤ a → ACalls prog 152 [.ag 9] [.dg 9 x0, .fn 104 []] a (fun x b => a ≤ b → Bel b x → ∀ a, b ≤ a → Q x a)) : ACalls prog 104 [.ag 9] [PV.dg 9 x0] N Q :=
 eE (H := H_impl_Term_own) (by kernel_rfl) (by kernel_rfl) h
theorem w_impl_tmForm (N : Nat) (n0 : Int) (a1 : Option Addr) (e1 : List D) (c1 : Nat) (Q : QT [.ag 9]) (h :
Bel N (D.sl a1 9 e1 c1) → ∀ a, N ≤ a → Q (D.ag [D.lit (.int .i64 n0), D.lit (.string (bytes [])), D.lit (.string (bytes [])), D.lit (.int .i64 0), D.lit (.int
 .i64 0), D.sl Option.none 2 [] 0, D.lit (.int .i64 0), D.sl Option.none 2 [] 0, D.sl a1 9 e1 c1]) a) : ACalls prog 103 [.ag 9] [PV.int .i64 n0, PV.sv a1 9 e1 c1] N Q :=
  eE (H := H_impl_tmForm) (by kernel_rfl) (by kernel_rfl) h
theorem w_impl_quoted (N : Nat) (x0 : D) (Q : QT [.ag 9]) (h :
Bel N x0 → (1 = ([x0]).length ∧ 1 = 1) ∧ ∀ a b, N ≤ b → Fresh N b a [D.ag [x0]] → ∀ c, b ≤ c → ACalls prog 103 [.ag 9] [.int .i64 10, .sv a 9 [x0] 1]
 c (fun x a => c ≤ a → Bel a x → ∀ b, a ≤ b → Q x b)) : ACalls prog 68 [.ag 9] [PV.dg 9 x0] N Q :=
  eE (H := H_impl_quoted) (by kernel_rfl) (by kernel_rfl) h
theorem w_impl_spliced (N : Nat) (x0 : D) (Q : QT [.ag 9]) (h :
Bel N x0 → (1 = ([x0]).length ∧ 1 = 1) ∧ ∀ a b, N ≤ b → Fresh N b a [D.ag [x0]] → ∀ c, b ≤ c → ACalls prog 103 [.ag 9] [.int .i64 11, .sv a 9 [x0] 1]
 c (fun x a => c ≤ a → Bel a x → ∀ b, a ≤ b → Q x b)) : ACalls prog 69 [.ag 9] [PV.dg 9 x0] N Q :=
  eE (H := H_impl_spliced) (by kernel_rfl) (by kernel_rfl) h
theorem w_impl_places_code (N : Nat) (a0 : Option Addr) (e0 : List D) (c0 : Nat) (x1 : D) (Q : QT [.ag 9]) (h :
Bel N (D.sl a0 3 e0 c0) → Bel N x1 → ∀ d, N ≤ d → ACalls prog 102 [.bool] [.sv a0 3 e0 c0, .dg 9 x1] d (fun b e => d ≤ e → Br (!b) (∀ b, e ≤ b
 → ACalls prog 104 [.ag 9] [.dg 9 x1] b (fun x c => b ≤ c → Bel c x → (1 = ([x]).length ∧ 1 = 1) ∧ ∀ a b, c ≤ b → Fresh N b a [D.ag [x]] → ∀ c,
 b ≤ c → ACalls prog 103 [.ag 9] [.int .i64 13, .sv a 9 [x] 1] c (fun a b => c ≤ b → Bel b a → ∀ c, b ≤ c → Q a c))) (∃ n : Int, (x1.cell
 0) = D.lit (.int .i64 n) ∧ Br (n == 1) (∀ a, e ≤ a → ACalls prog 104 [.ag 9] [.dg 9 x1] a (fun b c => a ≤ c → Bel c b → ∀ a, c ≤ a
 → ACalls prog 68 [.ag 9] [.dg 9 b] a (fun b c => a ≤ c → Bel c b → ∀ a, c ≤ a → Q b a))) (∃ a : Int, (x1.cell 0) = D.lit (.int
 .i64 a) ∧ Br (bne a 4) (∃ a b, ∃ c : Nat, (x1.cell 8) = D.sl a 9 b c ∧ ((0 : Int) ≤ (0 : Int) ∧ 0 < (b.length : Int)) ∧ ∀ a, e ≤ a → ACalls prog
 102 [.bool] [.sv a0 3 e0 c0, .dg 9 (List.getD b 0 default)] a (fun b c => a ≤ c → Br (!b) (∃ a b, ∃ d : Nat, (x1.cell 8) = D.sl a 9 b
 d ∧ ((0 : Int) ≤ (0 : Int) ∧ 0 < (b.length : Int)) ∧ ∀ a, c ≤ a → ACalls prog 104 [.ag 9] [.dg 9 (List.getD b 0 default)] a (fun b c =>
 a ≤ c → Bel c b → L_impl_places_code_9 Q N 1 1 1 x1 0 (bytes []) (bytes []) 0 0 Option.none [] 0 0 Option.none [] 0 Option.none [] 0 a0 e0 c0 [b] 1
 c)) (∃ a b, ∃ d : Nat, (x1.cell 8) = D.sl a 9 b d ∧ L_impl_places_code_15 Q N 0 0 (b.length : Int) 0 x1 0 (bytes []) (bytes []) 0 0 Option.none
 [] 0 0 Option.none [] 0 Option.none [] 0 a0 e0 c0 [] 0 c))) (∃ a b, ∃ c : Nat, (x1.cell 8) = D.sl a 9 b c ∧ L_impl_places_code_15 Q N 0 0 (b.length
 : Int) 0 x1 0 (bytes []) (bytes []) 0 0 Option.none [] 0 0 Option.none [] 0 Option.none [] 0 a0 e0 c0 [] 0 e))))) : ACalls prog 47 [.ag 9] [PV.sv a0 3 e0 c0, PV.dg 9 x1] N Q :=
  eE (H := H_impl_places_code) (by kernel_rfl) (by kernel_rfl) h
theorem w_impl_CodeFor (N : Nat) (a0 : Option Addr) (e0 : List D) (c0 : Nat) (x1 : D) (Q : QT [.ag 9]) (h :
Bel N (D.sl a0 4 e0 c0) → Bel N x1 → ∀ d, N ≤ d → ACalls prog 45 [.ag 2, .bool] [.sv a0 4 e0 c0, .dg 9 x1] d (fun x b e => d ≤ e → Bel e x → Br (!b)
 (∀ a, e ≤ a → Q (D.ag [D.lit (.int .i64 0), D.lit (.string (bytes [])), D.lit (.string (bytes [])), D.lit (.int .i64 0), D.lit (.int .i64 0), D.sl Option.none
 2 [] 0, D.lit (.int .i64 0), D.sl Option.none 2 [] 0, D.sl Option.none 9 [] 0]) a) (∀ b, e ≤ b → ACalls prog 46 [.sl 3] [.sv a0 4 e0 c0, .sv Option.none
 0 [] 0] b (fun a c d e => b ≤ e → Bel e (D.sl a 3 c d) → ∀ b, e ≤ b → ACalls prog 47 [.ag 9] [.sv a 3 c d, .dg 9 x1] b (fun a c => b ≤
 c → Bel c a → ∀ b, c ≤ b → Q a b))))) : ACalls prog 14 [.ag 9] [PV.sv a0 4 e0 c0, PV.dg 9 x1] N Q :=
  eE (H := H_impl_CodeFor) (by kernel_rfl) (by kernel_rfl) h
theorem w_laws_heldTermS (N : Nat) (a0 : Option Addr) (e0 : List D) (c0 : Nat) (n1 : Int) (Q : QT [.int .i64]) (h :
Bel N (D.sl a0 9 e0 c0) → L_laws_heldTermS_2 Q N a0 e0 c0 n1 0 N) : ACalls prog 35 [.int .i64] [PV.sv a0 9 e0 c0, PV.int .i64 n1] N Q :=
 eE (H := H_laws_heldTermS) (by kernel_rfl) (by kernel_rfl) h
theorem w_laws_heldTerm (N : Nat) (x0 : D) (n1 : Int) (Q : QT [.int .i64]) (h :
Bel N x0 → ∀ b, N ≤ b → ACalls prog 53 [.int .i64] [.dg 2 (D.sub x0 4 2), .int .i64 n1] b (fun n d => b ≤ d → Br (decide (n < 0)) (∀ a, d ≤ a →
 Q (-1) a) (∀ b, d ≤ b → ACalls prog 53 [.int .i64] [.dg 2 (D.sub x0 6 2), .int .i64 n] b (fun d e => b ≤ e → Br (decide (d < 0)) (∀ a, e
 ≤ a → Q (-1) a) (∃ a b, ∃ c : Nat, (x0.cell 8) = D.sl a 9 b c ∧ ∀ f, e ≤ f → ACalls prog 35 [.int .i64] [.sv a 9 b c, .int .i64 d] f (fun a b
 => f ≤ b → Br (decide (a < 0)) (∀ a, b ≤ a → Q (-1) a) (∀ c, b ≤ c → Q a c))))))) : ACalls prog 19 [.int .i64] [PV.dg 9 x0, PV.int .i64 n1] N Q :=
  eE (H := H_laws_heldTerm) (by kernel_rfl) (by kernel_rfl) h
theorem l_spec_l5Copy_3 (Q : QT [.pk, .int .i64, .str, .str, .int .i64, .dc, .dc, .dc, .dc, .row 36 9]) (N0 : Nat) (n4 : Int) (y0 : D) (n1_0 : Int) (s1_1 s1_2 : ByteArray) (n1_3 n1_4 : Int) (a1_5 : Option Addr) (e1_5 : List D) (c1_5 : Nat) (n1_6 : Int) (a1_7 : Option Addr) (e1_7 : List D) (c1_7 : Nat) (a1_8 : Option Addr) (e1_8 : List D) (c1_8 : Nat) (n2_0 : Int) (s2_1 s2_2 : ByteArray) (n2_3 : Int) (x2_4 x2_5 x2_6 x2_7 : D) (m2_8 c2_8 : Nat) (r3 : List D) (q3 : Nat) (N : Nat) (h :
∃ a b, ∃ c : Nat, (y0.cell 8) = D.sl a 9 b c ∧ Br (decide (n4 < (b.length : Int))) (∃ a b, ∃ c : Nat, (y0.cell 8) = D.sl a 9 b c ∧ (0 ≤ n4 ∧ n4
 < (b.length : Int)) ∧ ∀ a, N ≤ a → ACalls prog 75 [Sh.pk, .int .i64, .str, .str, .int .i64, Sh.dc, Sh.dc, Sh.dc, Sh.dc, .row (OfNat.ofNat 36) 9] [.dg 9 (List.getD
 b n4.toNat default)] a (fun n s b c x d e f g h i => a ≤ i → Bel i (D.ag g) → (g.length = g.length ∧ h = h) ∧ ∀ a j,
 i ≤ j → Fresh N0 j a [D.ag g, x, d, e, f, x2_4, x2_5, x2_6, x2_7, D.ag r3] → (m2_8 = r3.length ∧ c2_8 = q3) ∧ apBound r3 [D.ag [D.lit (.int .i64
 n), D.lit (.string s), D.lit (.string b), D.lit (.int .i64 c), x, d, e, f, D.sl a 9 g h]] 136 ∧ ∀ (i : Nat), L_spec_l5Copy_3 Q N0 (IntKind.i64.wrap
 (n4 + 1)) y0 n1_0 s1_1 s1_2 n1_3 n1_4 a1_5 e1_5 c1_5 n1_6 a1_7 e1_7 c1_7 a1_8 e1_8 c1_8 n2_0 s2_1 s2_2 n2_3 x2_4 x2_5 x2_6 x2_7 (r3 ++ [D.ag [D.lit (.int .i64 n),
 D.lit (.string s), D.lit (.string b), D.lit (.int .i64 c), x, d, e, f, D.sl a 9 g h]]).length i (r3 ++ [D.ag [D.lit (.int .i64 n), D.lit (.string
 s), D.lit (.string b), D.lit (.int .i64 c), x, d, e, f, D.sl a 9 g h]]) i j)) ((m2_8 = r3.length ∧ c2_8 = q3) ∧ ∀ a, N ≤ a → Q n2_0 s2_1
 s2_2 n2_3 x2_4 x2_5 x2_6 x2_7 r3 c2_8 a)) : L_spec_l5Copy_3 Q N0 n4 y0 n1_0 s1_1 s1_2 n1_3 n1_4 a1_5 e1_5 c1_5 n1_6 a1_7 e1_7 c1_7 a1_8 e1_8 c1_8 n2_0 s2_1 s2_2 n2_3 x2_4 x2_5 x2_6 x2_7 m2_8 c2_8 r3 q3 N :=
  hE (H := H_spec_l5Copy) (by kernel_rfl) h
theorem l_spec_l5Node_3 (Q : QT [.ag 9]) (N0 : Nat) (a1 : Option Addr) (e1 : List D) (c1 : Nat) (n6 n0_0 : Int) (s0_1 s0_2 : ByteArray) (n0_3 n0_4 : Int) (a0_5 : Option Addr) (e0_5 : List D) (c0_5 : Nat) (n0_6 : Int) (a0_7 : Option Addr) (e0_7 : List D) (c0_7 : Nat) (a0_8 : Option Addr) (e0_8 : List D) (c0_8 : Nat) (n1_0 : Int) (s1_1 s1_2 : ByteArray) (n1_3 n1_4 : Int) (a1_5 : Option Addr) (e1_5 : List D) (c1_5 : Nat) (n1_6 : Int) (a1_7 : Option Addr) (e1_7 : List D) (c1_7 m1_8 c1_8 : Nat) (r2 : List D) (q2 : Nat) (N : Nat) (h :
Br (decide (n6 < (e1.length : Int))) ((0 ≤ n6 ∧ n6 < (e1.length : Int)) ∧ ∀ b, N ≤ b → ACalls prog 75 [Sh.pk, .int .i64, .str, .str, .int .i64, Sh.dc, Sh.dc,
 Sh.dc, Sh.dc, .row (OfNat.ofNat 36) 9] [.dg 9 (List.getD e1 n6.toNat default)] b (fun n s c d x e f g h i j => b ≤ j → Bel j (D.ag h) → (h.length
 = h.length ∧ i = i) ∧ ∀ a b, j ≤ b → Fresh N0 b a [D.ag h, x, e, f, g, D.sl a1_5 2 e1_5 c1_5, D.sl a1_7 2 e1_7 c1_7, D.ag r2] → (m1_8 = r2.length
 ∧ c1_8 = q2) ∧ apBound r2 [D.ag [D.lit (.int .i64 n), D.lit (.string s), D.lit (.string c), D.lit (.int .i64 d), x, e, f, g, D.sl a 9 h i]] 136 ∧ ∀ (j
 : Nat), L_spec_l5Node_3 Q N0 a1 e1 c1 (IntKind.i64.wrap (n6 + 1)) n0_0 s0_1 s0_2 n0_3 n0_4 a0_5 e0_5 c0_5 n0_6 a0_7 e0_7 c0_7 a0_8 e0_8 c0_8 n1_0 s1_1 s1_2 n1_3
 n1_4 a1_5 e1_5 c1_5 n1_6 a1_7 e1_7 c1_7 (r2 ++ [D.ag [D.lit (.int .i64 n), D.lit (.string s), D.lit (.string c), D.lit (.int .i64 d), x, e, f, g, D.sl
 a 9 h i]]).length j (r2 ++ [D.ag [D.lit (.int .i64 n), D.lit (.string s), D.lit (.string c), D.lit (.int .i64 d), x, e, f, g, D.sl a 9 h i]]) j b))
 ((m1_8 = r2.length ∧ c1_8 = q2) ∧ (m1_8 = r2.length ∧ c1_8 = q2) ∧ (m1_8 = r2.length ∧ c1_8 = q2) ∧ ∀ a b, N ≤ b → Fresh N0 b a [D.ag r2, D.sl a1_5 2 e1_5
 c1_5, D.sl a1_7 2 e1_7 c1_7] → ∀ c, b ≤ c → Q (D.ag [D.lit (.int .i64 n1_0), D.lit (.string s1_1), D.lit (.string s1_2), D.lit (.int .i64 n1_3), D.lit (.int
 .i64 n1_4), D.sl a1_5 2 e1_5 c1_5, D.lit (.int .i64 n1_6), D.sl a1_7 2 e1_7 c1_7, D.sl a 9 r2 q2]) c)) : L_spec_l5Node_3 Q N0 a1 e1 c1 n6 n0_0 s0_1 s0_2 n0_3 n0_4 a0_5 e0_5 c0_5 n0_6 a0_7 e0_7 c0_7 a0_8 e0_8 c0_8 n1_0 s1_1 s1_2 n1_3 n1_4 a1_5 e1_5 c1_5 n1_6 a1_7 e1_7 c1_7 m1_8 c1_8 r2 q2 N :=
  hE (H := H_spec_l5Node) (by kernel_rfl) h
theorem l_spec_l17All_3 (Q : QT [.ag 9]) (N0 : Nat) (a1 : Option Addr) (e1 : List D) (c1 : Nat) (n6 : Int) (y0 : D) (n1_0 : Int) (s1_1 s1_2 : ByteArray) (n1_3 n1_4 : Int) (a1_5 : Option Addr) (e1_5 : List D) (c1_5 : Nat) (n1_6 : Int) (a1_7 : Option Addr) (e1_7 : List D) (c1_7 : Nat) (a1_8 : Option Addr) (e1_8 : List D) (c1_8 : Nat) (n2_0 : Int) (s2_1 s2_2 : ByteArray) (n2_3 : Int) (x2_4 x2_5 x2_6 x2_7 : D) (m2_8 c2_8 : Nat) (r3 : List D) (q3 : Nat) (N : Nat) (h :
∃ a b, ∃ c : Nat, (y0.cell 8) = D.sl a 9 b c ∧ Br (decide (n6 < (b.length : Int))) (∃ n : Int, (y0.cell 0) = D.lit (.int .i64 n) ∧ Br (n == 8) (Br (n6 == 1) (∃
 s, (y0.cell 1) = D.lit (.string s) ∧ ∀ a, N ≤ a → ACalls prog 92 [.sl 2] [.sv a1 2 e1 c1, .str s, .bool true] a (fun b c d e => a ≤ e → Bel e
 (D.sl b 2 c d) → ∃ a f, ∃ g : Nat, (y0.cell 8) = D.sl a 9 f g ∧ (0 ≤ n6 ∧ n6 < (f.length : Int)) ∧ ∀ a, e ≤ a → ACalls prog 40 [.ag
 9] [.dg 9 (List.getD f n6.toNat default), .sv b 2 c d] a (fun x b => a ≤ b → Bel b x → ∀ a, b ≤ a → ACalls prog 66 [.ag 9] [.dg 9 x] a
 (fun b c => a ≤ c → Bel c b → (0 ≤ n6 ∧ n6 < (m2_8 : Int) ∧ (0 + n6.toNat : Nat) < r3.length) ∧ (0 + n6.toNat : Nat) < r3.length ∧ L_spec_l17All_3 Q
 N0 a1 e1 c1 (IntKind.i64.wrap (n6 + 1)) y0 n1_0 s1_1 s1_2 n1_3 n1_4 a1_5 e1_5 c1_5 n1_6 a1_7 e1_7 c1_7 a1_8 e1_8 c1_8 n2_0 s2_1 s2_2 n2_3 x2_4 x2_5 x2_6 x2_7 m2_8
 c2_8 (List.set r3 (0 + n6.toNat : Nat) b) q3 c)))) (∃ a b, ∃ c : Nat, (y0.cell 8) = D.sl a 9 b c ∧ (0 ≤ n6 ∧ n6 < (b.length : Int)) ∧ ∀ a,
 N ≤ a → ACalls prog 40 [.ag 9] [.dg 9 (List.getD b n6.toNat default), .sv a1 2 e1 c1] a (fun b c => a ≤ c → Bel c b → ∀ a, c ≤ a → ACalls
 prog 66 [.ag 9] [.dg 9 b] a (fun b c => a ≤ c → Bel c b → (0 ≤ n6 ∧ n6 < (m2_8 : Int) ∧ (0 + n6.toNat : Nat) < r3.length) ∧ (0 + n6.toNat : Nat)
 < r3.length ∧ L_spec_l17All_3 Q N0 a1 e1 c1 (IntKind.i64.wrap (n6 + 1)) y0 n1_0 s1_1 s1_2 n1_3 n1_4 a1_5 e1_5 c1_5 n1_6 a1_7 e1_7 c1_7 a1_8 e1_8 c1_8 n2_0 s2_1 s2_2
 n2_3 x2_4 x2_5 x2_6 x2_7 m2_8 c2_8 (List.set r3 (0 + n6.toNat : Nat) b) q3 c)))) (∃ a b, ∃ c : Nat, (y0.cell 8) = D.sl a 9 b c ∧ (0 ≤ n6 ∧ n6
 < (b.length : Int)) ∧ ∀ a, N ≤ a → ACalls prog 40 [.ag 9] [.dg 9 (List.getD b n6.toNat default), .sv a1 2 e1 c1] a (fun b c => a ≤ c →
 Bel c b → ∀ a, c ≤ a → ACalls prog 66 [.ag 9] [.dg 9 b] a (fun b c => a ≤ c → Bel c b → (0 ≤ n6 ∧ n6 < (m2_8 : Int) ∧ (0 + n6.toNat
 : Nat) < r3.length) ∧ (0 + n6.toNat : Nat) < r3.length ∧ L_spec_l17All_3 Q N0 a1 e1 c1 (IntKind.i64.wrap (n6 + 1)) y0 n1_0 s1_1 s1_2 n1_3 n1_4 a1_5 e1_5 c1_5 n1_6
 a1_7 e1_7 c1_7 a1_8 e1_8 c1_8 n2_0 s2_1 s2_2 n2_3 x2_4 x2_5 x2_6 x2_7 m2_8 c2_8 (List.set r3 (0 + n6.toNat : Nat) b) q3 c)))) ((m2_8 = r3.length ∧ c2_8 = q3)
 ∧ (m2_8 = r3.length ∧ c2_8 = q3) ∧ ∀ a b, N ≤ b → Fresh N0 b a [D.ag r3] → ∀ c, b ≤ c → ACalls prog 65 [.ag 9] [.dg 9 (D.ag [D.lit (.int .i64
 n2_0), D.lit (.string s2_1), D.lit (.string s2_2), D.lit (.int .i64 n2_3), x2_4, x2_5, x2_6, x2_7, D.sl a 9 r3 q3])] c (fun a b => c ≤ b → Bel b
 a → ∀ c, b ≤ c → Q a c))) : L_spec_l17All_3 Q N0 a1 e1 c1 n6 y0 n1_0 s1_1 s1_2 n1_3 n1_4 a1_5 e1_5 c1_5 n1_6 a1_7 e1_7 c1_7 a1_8 e1_8 c1_8 n2_0 s2_1 s2_2 n2_3 x2_4 x2_5 x2_6 x2_7 m2_8 c2_8 r3 q3 N :=
  hE (H := H_spec_l17All) (by kernel_rfl) h
theorem w_impl_Term_mapped_i0 (N : Nat) (x0 : D) (Q : QT [.ag 9]) (h :
Bel N x0 → ∃ a b, ∃ c : Nat, (x0.cell 8) = D.sl a 9 b c ∧ L_impl_Term_mapped_3 Q N 0 0 a b c (b.length : Int) 0 x0 0 (bytes []) (bytes []) 0 0 Option.none []
 0 0 Option.none [] 0 Option.none [] 0 [] 0 N) : ACalls prog 152 [.ag 9] [.dg 9 x0, .fn 104 []] N Q :=
  eE (H := H_impl_Term_mapped) (by kernel_rfl) (by kernel_rfl) h
theorem l_impl_places_code_9 (Q : QT [.ag 9]) (N0 : Nat) (m6 c6 : Nat) (n7 : Int) (y0 : D) (n1_0 : Int) (s1_1 s1_2 : ByteArray) (n1_3 n1_4 : Int) (a1_5 : Option Addr) (e1_5 : List D) (c1_5 : Nat) (n1_6 : Int) (a1_7 : Option Addr) (e1_7 : List D) (c1_7 : Nat) (a1_8 : Option Addr) (e1_8 : List D) (c1_8 : Nat) (a2_0 : Option Addr) (e2_0 : List D) (c2_0 : Nat) (r3 : List D) (q3 : Nat) (N : Nat) (h :
∃ a b, ∃ c : Nat, (y0.cell 8) = D.sl a 9 b c ∧ Br (decide (n7 < (b.length : Int))) (∀ a, ApA (Option.some a) [D.sl a2_0 3 e2_0 c2_0] → ∀ b, ApA (Option.some
 b) [y0] → ∀ c, N ≤ c → BelA c [Option.some a, Option.some b] → ACalls prog 105 [.ag 9] [.int .i64 n7, .pd a 0 (D.sl a2_0 3 e2_0 c2_0), .pd b 9 y0]
 c (fun x d => c ≤ d → Off [Option.some a, Option.some b] x ∧ (Bel d x → (m6 = r3.length ∧ c6 = q3) ∧ apBound r3 [x] 136 ∧ ∀ (a : Nat), L_impl_places_code_9
 Q N0 (r3 ++ [x]).length a (IntKind.i64.wrap (n7 + 1)) y0 n1_0 s1_1 s1_2 n1_3 n1_4 a1_5 e1_5 c1_5 n1_6 a1_7 e1_7 c1_7 a1_8 e1_8 c1_8 a2_0 e2_0 c2_0 (r3 ++ [x])
 a d))) ((m6 = r3.length ∧ c6 = q3) ∧ (m6 = r3.length ∧ c6 = q3) ∧ ∀ a b, N ≤ b → Fresh N0 b a [D.ag r3] → ∀ c, b ≤ c → ACalls prog 107 [.ag 9]
 [.dg 9 y0, .sv a 9 r3 q3] c (fun a b => c ≤ b → Bel b a → ∀ c, b ≤ c → Q a c))) : L_impl_places_code_9 Q N0 m6 c6 n7 y0 n1_0 s1_1 s1_2 n1_3 n1_4 a1_5 e1_5 c1_5 n1_6 a1_7 e1_7 c1_7 a1_8 e1_8 c1_8 a2_0 e2_0 c2_0 r3 q3 N :=
  hE (H := H_impl_places_code) (by kernel_rfl) h
theorem l_impl_places_code_15 (Q : QT [.ag 9]) (N0 : Nat) (m8 c8 : Nat) (n62 n63 : Int) (y0 : D) (n1_0 : Int) (s1_1 s1_2 : ByteArray) (n1_3 n1_4 : Int) (a1_5 : Option Addr) (e1_5 : List D) (c1_5 : Nat) (n1_6 : Int) (a1_7 : Option Addr) (e1_7 : List D) (c1_7 : Nat) (a1_8 : Option Addr) (e1_8 : List D) (c1_8 : Nat) (a2_0 : Option Addr) (e2_0 : List D) (c2_0 : Nat) (r3 : List D) (q3 : Nat) (N : Nat) (h :
Br (decide (n63 < n62)) (∀ a, ApA (Option.some a) [D.sl a2_0 3 e2_0 c2_0] → ∀ b, ApA (Option.some b) [y0] → ∀ d, N ≤ d → BelA d [Option.some a, Option.some
 b] → ACalls prog 105 [.ag 9] [.int .i64 n63, .pd a 0 (D.sl a2_0 3 e2_0 c2_0), .pd b 9 y0] d (fun x e => d ≤ e → Off [Option.some a, Option.some b]
 x ∧ (Bel e x → ∀ a, e ≤ a → ACalls prog 69 [.ag 9] [.dg 9 x] a (fun b d => a ≤ d → Bel d b → (m8 = r3.length ∧ c8 = q3) ∧ apBound r3 [b]
 136 ∧ ∀ (c : Nat), L_impl_places_code_15 Q N0 (r3 ++ [b]).length c n62 (IntKind.i64.wrap (n63 + 1)) y0 n1_0 s1_1 s1_2 n1_3 n1_4 a1_5 e1_5 c1_5 n1_6 a1_7 e1_7 c1_7
 a1_8 e1_8 c1_8 a2_0 e2_0 c2_0 (r3 ++ [b]) c d)))) ((m8 = r3.length ∧ c8 = q3) ∧ (m8 = r3.length ∧ c8 = q3) ∧ ∀ a b, N ≤ b → Fresh N0 b a [D.ag r3] → ∀
 c, b ≤ c → ACalls prog 107 [.ag 9] [.dg 9 y0, .sv a 9 r3 q3] c (fun a b => c ≤ b → Bel b a → ∀ c, b ≤ c → ACalls prog 68 [.ag 9] [.dg 9
 a] c (fun a b => c ≤ b → Bel b a → ∀ c, b ≤ c → Q a c)))) : L_impl_places_code_15 Q N0 m8 c8 n62 n63 y0 n1_0 s1_1 s1_2 n1_3 n1_4 a1_5 e1_5 c1_5 n1_6 a1_7 e1_7 c1_7 a1_8 e1_8 c1_8 a2_0 e2_0 c2_0 r3 q3 N :=
  hE (H := H_impl_places_code) (by kernel_rfl) h
theorem l_laws_heldTermS_2 (Q : QT [.int .i64]) (N0 : Nat) (a0 : Option Addr) (e0 : List D) (c0 : Nat) (n1 n5 : Int) (N : Nat) (h :
Br (decide (n5 < (e0.length : Int))) ((0 ≤ n5 ∧ n5 < (e0.length : Int)) ∧ ∃ n : Int, (if 0 = 0 then D.cell (List.getD e0 n5.toNat default) 0 else D.sub (List.getD
 e0 n5.toNat default) 0 0) = D.lit (.int .i64 n) ∧ Br (bne n n1) (∀ a, N ≤ a → Q (-1) a) ((0 ≤ n5 ∧ n5 < (e0.length : Int)) ∧ ∃ s, (if 0 = 0 then D.cell (List.getD
 e0 n5.toNat default) 1 else D.sub (List.getD e0 n5.toNat default) 1 0) = D.lit (.string s) ∧ ∀ b, N ≤ b → ACalls prog 50 [.str] [.int .i64 (IntKind.i64.wrap
 (n1 + 1))] b (fun d e => b ≤ e → Br (!(ByteArray.toList s == ByteArray.toList d)) (∀ a, e ≤ a → Q (-1) a) ((0 ≤ n5 ∧ n5 < (e0.length : Int))
 ∧ ∃ b, (if 0 = 0 then D.cell (List.getD e0 n5.toNat default) 2 else D.sub (List.getD e0 n5.toNat default) 2 0) = D.lit (.string b) ∧ ∀ d, e ≤ d → ACalls
 prog 50 [.str] [.int .i64 (IntKind.i64.wrap (IntKind.i64.wrap (n1 + 1) + 1))] d (fun e f => d ≤ f → Br (!(ByteArray.toList b == ByteArray.toList e))
 (∀ a, f ≤ a → Q (-1) a) ((0 ≤ n5 ∧ n5 < (e0.length : Int)) ∧ ∃ b : Int, (if 0 = 0 then D.cell (List.getD e0 n5.toNat default) 3 else D.sub (List.getD e0
 n5.toNat default) 3 0) = D.lit (.int .i64 b) ∧ Br (bne b (IntKind.i64.wrap (IntKind.i64.wrap (IntKind.i64.wrap (n1 + 1) + 1) + 1))) (∀ a, f ≤ a → Q (-1)
 a) ((0 ≤ n5 ∧ n5 < (e0.length : Int)) ∧ ∃ b : Int, (if 0 = 0 then D.cell (if 2 = 0 then D.cell (List.getD e0 n5.toNat default) 4 else D.sub (List.getD e0 n5.toNat
 default) 4 2) 0 else D.sub (if 2 = 0 then D.cell (List.getD e0 n5.toNat default) 4 else D.sub (List.getD e0 n5.toNat default) 4 2) 0 0) = D.lit (.int .i64 b) ∧
 Br (bne b (IntKind.i64.wrap (IntKind.i64.wrap (IntKind.i64.wrap (IntKind.i64.wrap (n1 + 1) + 1) + 1) + 1))) (∀ a, f ≤ a → Q (-1) a) ((0 ≤ n5 ∧ n5 < (e0.length
 : Int)) ∧ ∃ a b, ∃ c : Nat, (if 0 = 0 then D.cell (if 2 = 0 then D.cell (List.getD e0 n5.toNat default) 4 else D.sub (List.getD e0 n5.toNat default) 4 2) 1 else
 D.sub (if 2 = 0 then D.cell (List.getD e0 n5.toNat default) 4 else D.sub (List.getD e0 n5.toNat default) 4 2) 1 0) = D.sl a 2 b c ∧ ∀ d, f ≤ d → ACalls
 prog 83 [.int .i64] [.sv a 2 b c, .int .i64 (IntKind.i64.wrap (IntKind.i64.wrap (IntKind.i64.wrap (IntKind.i64.wrap (IntKind.i64.wrap (n1 + 1) + 1) + 1) + 1) +
 1))] d (fun a b => d ≤ b → Br (decide (a < 0)) (∀ a, b ≤ a → Q (-1) a) ((0 ≤ n5 ∧ n5 < (e0.length : Int)) ∧ ∃ c : Int, (if 0 = 0 then
 D.cell (if 2 = 0 then D.cell (List.getD e0 n5.toNat default) 6 else D.sub (List.getD e0 n5.toNat default) 6 2) 0 else D.sub (if 2 = 0 then D.cell (List.getD e0 n5.toNat
 default) 6 else D.sub (List.getD e0 n5.toNat default) 6 2) 0 0) = D.lit (.int .i64 c) ∧ Br (bne c a) (∀ a, b ≤ a → Q (-1) a) ((0 ≤ n5 ∧ n5 < (e0.length
 : Int)) ∧ ∃ c d, ∃ e : Nat, (if 0 = 0 then D.cell (if 2 = 0 then D.cell (List.getD e0 n5.toNat default) 6 else D.sub (List.getD e0 n5.toNat default) 6 2)
 1 else D.sub (if 2 = 0 then D.cell (List.getD e0 n5.toNat default) 6 else D.sub (List.getD e0 n5.toNat default) 6 2) 1 0) = D.sl c 2 d e ∧ ∀ f, b ≤
 f → ACalls prog 83 [.int .i64] [.sv c 2 d e, .int .i64 (IntKind.i64.wrap (a + 1))] f (fun a b => f ≤ b → Br (decide (a < 0)) (∀ a,
 b ≤ a → Q (-1) a) ((0 ≤ n5 ∧ n5 < (e0.length : Int)) ∧ ∃ c d, ∃ e : Nat, (if 0 = 0 then D.cell (List.getD e0 n5.toNat default) 8 else D.sub (List.getD
 e0 n5.toNat default) 8 0) = D.sl c 9 d e ∧ ∀ f, b ≤ f → ACalls prog 35 [.int .i64] [.sv c 9 d e, .int .i64 a] f (fun a b => f
 ≤ b → Br (decide (a < 0)) (∀ a, b ≤ a → Q (-1) a) (L_laws_heldTermS_2 Q N0 a0 e0 c0 a (IntKind.i64.wrap (n5 + 1)) b))))))))))))))) (∀ a,
 N ≤ a → Q n1 a)) : L_laws_heldTermS_2 Q N0 a0 e0 c0 n1 n5 N :=
  hE (H := H_laws_heldTermS) (by kernel_rfl) h
theorem l_impl_Term_mapped_3 (Q : QT [.ag 9]) (N0 : Nat) (m5 c5 : Nat) (a10 : Option Addr) (e10 : List D) (c10 : Nat) (n11 n12 : Int) (y0 : D) (n1_0 : Int) (s1_1 s1_2 : ByteArray) (n1_3 n1_4 : Int) (a1_5 : Option Addr) (e1_5 : List D) (c1_5 : Nat) (n1_6 : Int) (a1_7 : Option Addr) (e1_7 : List D) (c1_7 : Nat) (a1_8 : Option Addr) (e1_8 : List D) (c1_8 : Nat) (r2 : List D) (q2 : Nat) (N : Nat) (h :
Br (decide (n12 < n11)) ((0 ≤ n12 ∧ n12 < (e10.length : Int)) ∧ ∀ a, N ≤ a → ACalls prog 104 [.ag 9] [.dg 9 (List.getD e10 n12.toNat default)] a (fun x b
 => a ≤ b → Bel b x → (m5 = r2.length ∧ c5 = q2) ∧ apBound r2 [x] 136 ∧ ∀ (c : Nat), L_impl_Term_mapped_3 Q N0 (r2 ++ [x]).length c a10 e10 c10 n11 (IntKind.i64.wrap
 (n12 + 1)) y0 n1_0 s1_1 s1_2 n1_3 n1_4 a1_5 e1_5 c1_5 n1_6 a1_7 e1_7 c1_7 a1_8 e1_8 c1_8 (r2 ++ [x]) c b)) ((m5 = r2.length ∧ c5 = q2) ∧ (m5 = r2.length ∧ c5 =
 q2) ∧ ∀ a b, N ≤ b → Fresh N0 b a [D.ag r2] → ∀ c, b ≤ c → ACalls prog 107 [.ag 9] [.dg 9 y0, .sv a 9 r2 q2] c (fun a b => c ≤ b → Bel b
 a → ∀ c, b ≤ c → Q a c))) : L_impl_Term_mapped_3 Q N0 m5 c5 a10 e10 c10 n11 n12 y0 n1_0 s1_1 s1_2 n1_3 n1_4 a1_5 e1_5 c1_5 n1_6 a1_7 e1_7 c1_7 a1_8 e1_8 c1_8 r2 q2 N :=
  hE (H := H_impl_Term_mapped) (by kernel_rfl) h
theorem w_impl_places_code_1_i0 (N : Nat) (n0 : Int) (a1 : Addr) (x1_ : D) (a2 : Addr) (x2_ : D) (Q : QT [.ag 9]) (h :
∃ a b, ∃ c : Nat, x1_ = D.sl a 3 b c ∧ ∃ d e, ∃ f : Nat, (if 0 = 0 then (x2_.cell 8) else D.sub x2_ 8 0) = D.sl d 9 e f ∧ (0 ≤ n0 ∧ n0 < (e.length
 : Int)) ∧ ∀ d, N ≤ d → ACalls prog 106 [.sl 3] [.sv a 3 b c, .dg 9 x2_, .int .i64 n0] d (fun a b c f => d ≤ f → Bel f (D.sl a 3 b c)
 → ∀ d, f ≤ d → ACalls prog 47 [.ag 9] [.sv a 3 b c, .dg 9 (List.getD e n0.toNat default)] d (fun x a => d ≤ a → Bel a x → ∀ b, a ≤
 b → Q x b))) : ACalls prog 105 [.ag 9] [.int .i64 n0, .pd a1 0 x1_, .pd a2 9 x2_] N Q :=
  eE (H := H_impl_places_code_1) (by kernel_rfl) (by kernel_rfl) h

end Go.Proofs.YtfkmegifjiiclaaGreat
