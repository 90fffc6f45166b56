/- Printed by gen.py: what the functions come to. -/
import Derived.Test.YtfkmegifjiiclaaGreatJh
set_option linter.unusedVariables false
set_option maxRecDepth 100000
namespace Go.Proofs.YtfkmegifjiiclaaGreat
open Go Go.Proofs Go.Proofs.Tryz
def H_spec_SplitParams : Hint := ⟨[hc 4 [0, 4, 5, 6] [(4, 71, 4), (5, 71, 4)]], [], [(6, [en 0, en 1, en 2, en 3, en 4, en 5, en 6, en 7, en 8, en 9, en 11, en 12, en 13, en 14, en 15, en 17, ec 10 [25], en 16, eh 18])]⟩
def H_impl_SplitParams : Hint := ⟨[hc 3 [4, 5, 11, 12, 13] [(4, 71, 4), (5, 71, 4)]], [], [(5, [en 0, en 1, en 2, en 3, en 5, en 6, en 8, ec 4 [20], en 7, eh 9])]⟩
def L_spec_SplitParams_4 (Q : QT [.sl 4, .sl 4]) (N0 : Nat) (a0 : Option Addr) (e0 : List D) (c0 m4 c4 m5 c5 : Nat) (n6 : Int) (r0 : List D) (q0 : Nat) (r1 : List D) (q1 : Nat) (N : Nat) : Prop := AT prog 54 [.sl 4, .sl 4] Q N0 .ord (loopAt prog 54 4) ⟨.sv a0 4 e0 c0 :: an 3 (.sb 0 4 0 m4 c4 :: .sb 1 4 0 m5 c5 :: .int .i64 n6 :: an 38 []), [.arr 71 4 r0 q0, .arr 71 4 r1 q1], N, none⟩
def L_impl_SplitParams_3 (Q : QT [.sl 4, .sl 4]) (N0 : Nat) (m4 c4 m5 c5 : Nat) (a11 : Option Addr) (e11 : List D) (c11 : Nat) (n12 n13 : Int) (r0 : List D) (q0 : Nat) (r1 : List D) (q1 : Nat) (N : Nat) : Prop := AT prog 56 [.sl 4, .sl 4] Q N0 .ord (loopAt prog 56 3) ⟨an 4 (.sb 0 4 0 m4 c4 :: .sb 1 4 0 m5 c5 :: an 5 (.sv a11 4 e11 c11 :: .int .i64 n12 :: .int .i64 n13 :: an 24 [])), [.arr 71 4 r0 q0, .arr 71 4 r1 q1], N, none⟩
theorem w_spec_SplitParams (N : Nat) (a0 : Option Addr) (e0 : List D) (c0 : Nat) (Q : QT [.sl 4, .sl 4]) (h :
Bel N (D.sl a0 4 e0 c0) → L_spec_SplitParams_4 Q N a0 e0 c0 0 0 0 0 0 [] 0 [] 0 N) : ACalls prog 54 [.sl 4, .sl 4] [PV.sv a0 4 e0 c0] N Q :=
 eE (H := H_spec_SplitParams) (by kernel_rfl) (by kernel_rfl) h
theorem w_impl_SplitParams (N : Nat) (a0 : Option Addr) (e0 : List D) (c0 : Nat) (Q : QT [.sl 4, .sl 4]) (h :
Bel N (D.sl a0 4 e0 c0) → L_impl_SplitParams_3 Q N 0 0 0 0 a0 e0 c0 (e0.length : Int) 0 [] 0 [] 0 N) : ACalls prog 56 [.sl 4, .sl 4] [PV.sv a0 4 e0 c0] N Q :=
 eE (H := H_impl_SplitParams) (by kernel_rfl) (by kernel_rfl) h
theorem l_spec_SplitParams_4 (Q : QT [.sl 4, .sl 4]) (N0 : Nat) (a0 : Option Addr) (e0 : List D) (c0 m4 c4 m5 c5 : Nat) (n6 : Int) (r0 : List D) (q0 : Nat) (r1 : List D) (q1 : Nat) (N : Nat) (h :
Br (decide (n6 < (e0.length : Int))) ((0 ≤ n6 ∧ n6 < (e0.length : Int)) ∧ ∃ s, (if 0 = 0 then D.cell (List.getD e0 n6.toNat default) 0 else D.sub (List.getD e0 n6.toNat
 default) 0 0) = D.lit (.string s) ∧ (0 ≤ n6 ∧ n6 < (e0.length : Int)) ∧ (0 ≤ n6 ∧ n6 < (e0.length : Int)) ∧ ∃ b : Bool, (if 0 = 0 then D.cell (List.getD e0 n6.toNat
 default) 3 else D.sub (List.getD e0 n6.toNat default) 3 0) = D.lit (.bool b) ∧ ∀ a, N ≤ a → ACalls prog 109 [.ag 2] [.dg 2 (if 2 = 0 then D.cell (List.getD e0
 n6.toNat default) 1 else D.sub (List.getD e0 n6.toNat default) 1 2)] a (fun x d => a ≤ d → Bel d x → Br b ((m5 = r1.length ∧ c5 = q1) ∧ apBound r1 [D.ag
 [D.lit (.string s), (x.cell 0), (x.cell 1), D.lit (.bool b)]] 56 ∧ ∀ (c : Nat), L_spec_SplitParams_4 Q N0 a0 e0 c0 m4 c4 (r1 ++ [D.ag [D.lit (.string s), (x.cell
 0), (x.cell 1), D.lit (.bool b)]]).length c (IntKind.i64.wrap (n6 + 1)) r0 q0 (r1 ++ [D.ag [D.lit (.string s), (x.cell 0), (x.cell 1), D.lit (.bool b)]]) c d)
 ((m4 = r0.length ∧ c4 = q0) ∧ apBound r0 [D.ag [D.lit (.string s), (x.cell 0), (x.cell 1), D.lit (.bool b)]] 56 ∧ ∀ (a : Nat), L_spec_SplitParams_4 Q N0 a0 e0
 c0 (r0 ++ [D.ag [D.lit (.string s), (x.cell 0), (x.cell 1), D.lit (.bool b)]]).length a m5 c5 (IntKind.i64.wrap (n6 + 1)) (r0 ++ [D.ag [D.lit (.string s), (x.cell
 0), (x.cell 1), D.lit (.bool b)]]) a r1 q1 d))) ((m4 = r0.length ∧ c4 = q0) ∧ (m4 = r0.length ∧ c4 = q0) ∧ (m4 = r0.length ∧ c4 = q0) ∧ ∀ a b, N ≤ b → Fresh
 N0 b a [D.ag r0, D.ag r1] → (m5 = r1.length ∧ c5 = q1) ∧ (m5 = r1.length ∧ c5 = q1) ∧ (m5 = r1.length ∧ c5 = q1) ∧ ∀ c d, b ≤ d → Fresh N0 d c [D.ag
 r1, D.sl a 4 r0 q0] → ∀ b, d ≤ b → Q a r0 q0 c r1 q1 b)) : L_spec_SplitParams_4 Q N0 a0 e0 c0 m4 c4 m5 c5 n6 r0 q0 r1 q1 N :=
  hE (H := H_spec_SplitParams) (by kernel_rfl) h
theorem l_impl_SplitParams_3 (Q : QT [.sl 4, .sl 4]) (N0 : Nat) (m4 c4 m5 c5 : Nat) (a11 : Option Addr) (e11 : List D) (c11 : Nat) (n12 n13 : Int) (r0 : List D) (q0 : Nat) (r1 : List D) (q1 : Nat) (N : Nat) (h :
Br (decide (n13 < n12)) ((0 ≤ n13 ∧ n13 < (e11.length : Int)) ∧ ∃ s, D.cell (List.getD e11 n13.toNat default) 0 = D.lit (.string s) ∧ ∃ b : Bool, D.cell (List.getD
 e11 n13.toNat default) 3 = D.lit (.bool b) ∧ ∀ a, N ≤ a → ACalls prog 111 [.ag 2] [.dg 2 (D.sub (List.getD e11 n13.toNat default) 1 2)] a (fun x d => a
 ≤ d → Bel d x → ∃ a : Bool, D.cell (List.getD e11 n13.toNat default) 3 = D.lit (.bool a) ∧ Br a ((m5 = r1.length ∧ c5 = q1) ∧ apBound r1 [D.ag [D.lit (.string
 s), (x.cell 0), (x.cell 1), D.lit (.bool b)]] 56 ∧ ∀ (c : Nat), L_impl_SplitParams_3 Q N0 m4 c4 (r1 ++ [D.ag [D.lit (.string s), (x.cell 0), (x.cell 1), D.lit (.bool
 b)]]).length c a11 e11 c11 n12 (IntKind.i64.wrap (n13 + 1)) r0 q0 (r1 ++ [D.ag [D.lit (.string s), (x.cell 0), (x.cell 1), D.lit (.bool b)]]) c d) ((m4 = r0.length
 ∧ c4 = q0) ∧ apBound r0 [D.ag [D.lit (.string s), (x.cell 0), (x.cell 1), D.lit (.bool b)]] 56 ∧ ∀ (a : Nat), L_impl_SplitParams_3 Q N0 (r0 ++ [D.ag [D.lit (.string
 s), (x.cell 0), (x.cell 1), D.lit (.bool b)]]).length a m5 c5 a11 e11 c11 n12 (IntKind.i64.wrap (n13 + 1)) (r0 ++ [D.ag [D.lit (.string s), (x.cell 0), (x.cell
 1), D.lit (.bool b)]]) a r1 q1 d))) ((m4 = r0.length ∧ c4 = q0) ∧ (m4 = r0.length ∧ c4 = q0) ∧ (m4 = r0.length ∧ c4 = q0) ∧ ∀ a b, N ≤ b → Fresh N0 b a
 [D.ag r0, D.ag r1] → (m5 = r1.length ∧ c5 = q1) ∧ (m5 = r1.length ∧ c5 = q1) ∧ (m5 = r1.length ∧ c5 = q1) ∧ ∀ c d, b ≤ d → Fresh N0 d c [D.ag r1, D.sl
 a 4 r0 q0] → ∀ b, d ≤ b → Q a r0 q0 c r1 q1 b)) : L_impl_SplitParams_3 Q N0 m4 c4 m5 c5 a11 e11 c11 n12 n13 r0 q0 r1 q1 N :=
  hE (H := H_impl_SplitParams) (by kernel_rfl) h
end Go.Proofs.YtfkmegifjiiclaaGreat

/- Printed by gen.py: what the functions come to. -/
set_option linter.unusedVariables false
set_option maxRecDepth 100000
namespace Go.Proofs.YtfkmegifjiiclaaGreat
open Go Go.Proofs Go.Proofs.Tryz
def H_spec_l5Lam : Hint := ⟨[], [], [(3, hs 4 [ec 1 [13]])]⟩
def H_spec_FunctionOf : Hint := ⟨[hc 3 [0, 4, 5, 6]], [], [(1, hs 4 [ec 1 [7]]), (5, [en 0, en 1, en 2, en 3, en 4, en 5, en 6, en 7, en 8, en 9, en 10, ec 11 [25, 26], eh 12])]⟩
def H_spec_StageBody : Hint := ⟨[], [], [(1, hs 9 [ec 2 [12]]), (5, hs 11 [ec 4 [27], ec 5 [28], ec 6 [29], ec 7 [30], ec 8 [31]])]⟩
def H_impl_tmLam : Hint := ⟨[], [], [(1, [en 0, en 1, en 3, en 4, ec 2 [8], en 5, eh 6])]⟩
def H_impl_StageBody : Hint := ⟨[], [], [(1, hs 9 [ec 2 [12]]), (5, hs 11 [ec 4 [27], ec 5 [28], ec 6 [29], ec 7 [30], ec 8 [31]])]⟩
def H_laws_FnExactStageBody : Hint := ⟨[], [], [(5, hs 4 [ec 2 [22]]), (8, [en 0, en 2, en 8, eh 1, ec 3 [30], ec 4 [31], en 5, en 6, en 7, eh 9, en 10]), (10, hs 4 [ec 1 [37]]), (11, hs 9 [ec 2 [41]]), (12, hs 9 [ec 2 [45, 46]]), (16, [en 0, en 1, ec 2 [60], ec 3 [59, 61], en 4]), (19, hs 4 [em 2 none [0, 3, 6, 7, 9, 10, 11, 12]]), (20, hs 4 [em 2 (some 9) [0, 3, 6, 7, 10, 11, 12]]), (21, hs 13 [ec 5 [73, 74]]), (24, hs 4 [em 2 (some 10) [0, 3, 6, 7, 10, 13]]), (26, hs 4 [ec 2 [86]]), (31, [en 0, en 2, en 8, eh 1, ec 3 [97], ec 4 [98], en 5, en 6, en 7, eh 9, en 10]), (32, hs 9 [ec 2 [102, 103]]), (35, hs 4 [ec 2 [111]])]⟩
def L_spec_FunctionOf_3 (Q : QT [.ag 9]) (N0 : Nat) (a0 : Option Addr) (e0 : List D) (c0 : Nat) (n6 n0_0 : Int) (s0_1 s0_2 : ByteArray) (n0_3 n0_4 : Int) (a0_5 : Option Addr) (e0_5 : List D) (c0_5 : Nat) (n0_6 : Int) (a0_7 : Option Addr) (e0_7 : List D) (c0_7 : Nat) (a0_8 : Option Addr) (e0_8 : List D) (c0_8 : Nat) (n1_0 : Int) (s1_1 s1_2 : ByteArray) (n1_3 : Int) (x1_4 x1_5 x1_6 x1_7 : D) (m1_8 c1_8 : Nat) (r2 : List D) (q2 : Nat) (N : Nat) : Prop := AT prog 64 [.ag 9] Q N0 .ord (loopAt prog 64 3) ⟨.sv a0 4 e0 c0 :: an 3 (.pb 0 0 0 0 :: .pb 1 0 0 0 :: .int .i64 n6 :: an 22 []), [.var [.int .i64 n0_0, .str s0_1, .str s0_2, .int .i64 n0_3, .int .i64 n0_4, .sv a0_5 2 e0_5 c0_5, .int .i64 n0_6, .sv a0_7 2 e0_7 c0_7, .sv a0_8 9 e0_8 c0_8], .var [.int .i64 n1_0, .str s1_1, .str s1_2, .int .i64 n1_3, .dc x1_4, .dc x1_5, .dc x1_6, .dc x1_7, .sb 2 9 0 m1_8 c1_8], .arr 36 9 r2 q2], N, none⟩
def L_spec_FunctionOf_3_v1 (Q : QT [.ag 9]) (N0 : Nat) (a0 : Option Addr) (e0 : List D) (c0 : Nat) (n6 n0_0 : Int) (s0_1 s0_2 : ByteArray) (n0_3 n0_4 : Int) (a0_5 : Option Addr) (e0_5 : List D) (c0_5 : Nat) (n0_6 : Int) (a0_7 : Option Addr) (e0_7 : List D) (c0_7 : Nat) (a0_8 : Option Addr) (e0_8 : List D) (c0_8 : Nat) (y1 : D) (N : Nat) : Prop := AT prog 64 [.ag 9] Q N0 .ord (loopAt prog 64 3) ⟨.sv a0 4 e0 c0 :: an 3 (.pb 0 0 0 0 :: .pb 1 0 0 0 :: .int .i64 n6 :: an 22 []), [.var [.int .i64 n0_0, .str s0_1, .str s0_2, .int .i64 n0_3, .int .i64 n0_4, .sv a0_5 2 e0_5 c0_5, .int .i64 n0_6, .sv a0_7 2 e0_7 c0_7, .sv a0_8 9 e0_8 c0_8], .vd y1 9], N, none⟩
theorem w_spec_l5Lam (N : Nat) (s0 : ByteArray) (x1 x2 : D) (Q : QT [.ag 9]) (h :
Bel N x1 → Bel N x2 → (1 = ([x2]).length ∧ 1 = 1) ∧ ∀ a, ApA a [x2] → ∀ b, N ≤ b → BelA b [a] → ACalls prog 90 [.ag 9] [.int .i64 6, .sv a 9 [x2] 1] b (fun
 x c => b ≤ c → Off [a] x ∧ (Bel c x → ∀ a, c ≤ a → ACalls prog 109 [.ag 2] [.dg 2 x1] a (fun b c => a ≤ c → Bel c b → ∀ a, c ≤ a
 → Q (D.ag [(x.cell 0), D.lit (.string s0), (x.cell 2), (x.cell 3), (b.cell 0), (b.cell 1), (x.cell 6), (x.cell 7), (x.cell 8)]) a)))) : ACalls prog 122 [.ag 9] [PV.str s0, PV.dg 2 x1, PV.dg 9 x2] N Q :=
  eE (H := H_spec_l5Lam) (by kernel_rfl) (by kernel_rfl) h
theorem w_spec_FunctionOf (N : Nat) (a0 : Option Addr) (e0 : List D) (c0 : Nat) (x1 : D) (Q : QT [.ag 9]) (h :
Bel N (D.sl a0 4 e0 c0) → Bel N x1 → ∀ a, N ≤ a → ACalls prog 75 [Sh.pk, .int .i64, .str, .str, .int .i64, Sh.dc, Sh.dc, Sh.dc, Sh.dc, .row (OfNat.ofNat 36)
 9] [.dg 9 x1] a (fun n s b c x d e f g h i => a ≤ i → Bel i (D.ag g) → L_spec_FunctionOf_3 Q N a0 e0 c0 (IntKind.i64.wrap ((e0.length : Int)
 - 1)) 0 (bytes []) (bytes []) 0 0 Option.none [] 0 0 Option.none [] 0 Option.none [] 0 n s b c x d e f g.length h g h i)) : ACalls prog 64 [.ag 9] [PV.sv a0 4 e0 c0, PV.dg 9 x1] N Q :=
  eE (H := H_spec_FunctionOf) (by kernel_rfl) (by kernel_rfl) h
theorem w_spec_StageBody (N : Nat) (a0 : Option Addr) (e0 : List D) (c0 : Nat) (x1 : D) (Q : QT [.ag 9, .bool]) (h :
Bel N (D.sl a0 4 e0 c0) → Bel N x1 → ∀ d, N ≤ d → ACalls prog 39 [.ag 2, .bool] [.sv a0 4 e0 c0, .dg 9 x1] d (fun x b e => d ≤ e → Bel e x → Br (!b)
 (∀ a, e ≤ a → Q (D.ag [D.lit (.int .i64 0), D.lit (.string (bytes [])), D.lit (.string (bytes [])), D.lit (.int .i64 0), D.lit (.int .i64 0), D.sl Option.none
 2 [] 0, D.lit (.int .i64 0), D.sl Option.none 2 [] 0, D.sl Option.none 9 [] 0]) false a) (∀ b, e ≤ b → ACalls prog 54 [.sl 4, .sl 4] [.sv a0 4 e0 c0] b
 (fun a c d e f g h => b ≤ h → Bel h (D.sl a 4 c d) → Bel h (D.sl e 4 f g) → ∀ b, h ≤ b → ACalls prog 11 [.ag 9] [.sv a0 4 e0 c0,
 .dg 9 x1] b (fun h i => b ≤ i → Bel i h → ∀ b, i ≤ b → ACalls prog 66 [.ag 9] [.dg 9 h] b (fun h i => b ≤ i → Bel i h → ∀ b,
 i ≤ b → ACalls prog 64 [.ag 9] [.sv e 4 f g, .dg 9 h] b (fun e f => b ≤ f → Bel f e → ∀ b, f ≤ b → ACalls prog 65 [.ag
 9] [.dg 9 e] b (fun e f => b ≤ f → Bel f e → ∀ b, f ≤ b → ACalls prog 64 [.ag 9] [.sv a 4 c d, .dg 9 e] b (fun a c => b
 ≤ c → Bel c a → ∀ b, c ≤ b → Q a true b))))))))) : ACalls prog 27 [.ag 9, .bool] [PV.sv a0 4 e0 c0, PV.dg 9 x1] N Q :=
  eE (H := H_spec_StageBody) (by kernel_rfl) (by kernel_rfl) h
theorem w_impl_tmLam (N : Nat) (s0 : ByteArray) (x1 x2 : D) (Q : QT [.ag 9]) (h :
Bel N x1 → Bel N x2 → ∀ b, N ≤ b → ACalls prog 111 [.ag 2] [.dg 2 x1] b (fun x c => b ≤ c → Bel c x → (1 = ([x2]).length ∧ 1 = 1) ∧ (1 = ([x2]).length
 ∧ 1 = 1) ∧ (1 = ([x2]).length ∧ 1 = 1) ∧ ∀ a b, c ≤ b → Fresh N b a [D.ag [x2], (x.cell 0), (x.cell 1), D.sl Option.none 2 [] 0] → ∀ c, b ≤ c → Q (D.ag
 [D.lit (.int .i64 6), D.lit (.string s0), D.lit (.string (bytes [])), D.lit (.int .i64 0), (x.cell 0), (x.cell 1), D.lit (.int .i64 0), D.sl Option.none 2 [] 0,
 D.sl a 9 [x2] 1]) c)) : ACalls prog 124 [.ag 9] [PV.str s0, PV.dg 2 x1, PV.dg 9 x2] N Q :=
  eE (H := H_impl_tmLam) (by kernel_rfl) (by kernel_rfl) h
theorem w_impl_StageBody (N : Nat) (a0 : Option Addr) (e0 : List D) (c0 : Nat) (x1 : D) (Q : QT [.ag 9, .bool]) (h :
Bel N (D.sl a0 4 e0 c0) → Bel N x1 → ∀ d, N ≤ d → ACalls prog 45 [.ag 2, .bool] [.sv a0 4 e0 c0, .dg 9 x1] d (fun x b e => d ≤ e → Bel e x → Br (!b)
 (∀ a, e ≤ a → Q (D.ag [D.lit (.int .i64 0), D.lit (.string (bytes [])), D.lit (.string (bytes [])), D.lit (.int .i64 0), D.lit (.int .i64 0), D.sl Option.none
 2 [] 0, D.lit (.int .i64 0), D.sl Option.none 2 [] 0, D.sl Option.none 9 [] 0]) false a) (∀ b, e ≤ b → ACalls prog 56 [.sl 4, .sl 4] [.sv a0 4 e0 c0] b
 (fun a c d e f g h => b ≤ h → Bel h (D.sl a 4 c d) → Bel h (D.sl e 4 f g) → ∀ b, h ≤ b → ACalls prog 14 [.ag 9] [.sv a0 4 e0 c0,
 .dg 9 x1] b (fun h i => b ≤ i → Bel i h → ∀ b, i ≤ b → ACalls prog 69 [.ag 9] [.dg 9 h] b (fun h i => b ≤ i → Bel i h → ∀ b,
 i ≤ b → ACalls prog 67 [.ag 9] [.sv e 4 f g, .dg 9 h] b (fun e f => b ≤ f → Bel f e → ∀ b, f ≤ b → ACalls prog 68 [.ag
 9] [.dg 9 e] b (fun e f => b ≤ f → Bel f e → ∀ b, f ≤ b → ACalls prog 67 [.ag 9] [.sv a 4 c d, .dg 9 e] b (fun a c => b
 ≤ c → Bel c a → ∀ b, c ≤ b → Q a true b))))))))) : ACalls prog 28 [.ag 9, .bool] [PV.sv a0 4 e0 c0, PV.dg 9 x1] N Q :=
  eE (H := H_impl_StageBody) (by kernel_rfl) (by kernel_rfl) h
theorem w_laws_FnExactStageBody (N : Nat) (a0 : Option Addr) (e0 : List D) (c0 : Nat) (x1 : D) (Q : QT [.bool]) (h :
Bel N (D.sl a0 4 e0 c0) → Bel N x1 → ∀ d, N ≤ d → ACalls prog 9 [.int .i64] [.sv a0 4 e0 c0, .int .i64 1048576] d (fun n e => d ≤ e → Br (decide (n <
 0)) (∀ a, e ≤ a → Q true a) (∀ d, e ≤ d → ACalls prog 10 [.int .i64] [.dg 9 x1, .int .i64 n] d (fun e f => d ≤ f → Br (decide (e < 0))
 (∀ a, f ≤ a → Q true a) (∀ d, f ≤ d → ACalls prog 12 [.sl 4] [.sv a0 4 e0 c0] d (fun a c e f => d ≤ f → Bel f (D.sl a 4 c e) → ∀ d, f
 ≤ d → ACalls prog 13 [.ag 9] [.dg 9 x1] d (fun x f => d ≤ f → Bel f x → ∀ d, f ≤ d → ACalls prog 27 [.ag 9, .bool] [.sv a 4 c e, .dg 9 x]
 d (fun a b c => d ≤ c → Bel c a → ∀ d, c ≤ d → ACalls prog 12 [.sl 4] [.sv a0 4 e0 c0] d (fun c e f g => d ≤ g → Bel
 g (D.sl c 4 e f) → ∀ d, g ≤ d → ACalls prog 13 [.ag 9] [.dg 9 x1] d (fun g h => d ≤ h → Bel h g → ∀ d, h ≤ d → ACalls
 prog 28 [.ag 9, .bool] [.sv c 4 e f, .dg 9 g] d (fun h i j => d ≤ j → Bel j h → ∀ d, j ≤ d → ACalls prog 15 [.bool] [.dg 9
 h, .dg 9 a] d (fun j k => d ≤ k → Br (!j) (∀ a, k ≤ a → Q false a) (Br (!(i == b)) (∀ a, k ≤ a → Q false a) (∀ d,
 k ≤ d → ACalls prog 12 [.sl 4] [.sv a0 4 e0 c0] d (fun j k l m => d ≤ m → Bel m (D.sl j 4 k l) → ∀ d, m ≤ d → ACalls
 prog 16 [.bool] [.sv c 4 e f, .sv j 4 k l] d (fun j k => d ≤ k → Br (!j) (∀ a, k ≤ a → Q false a) (∀ d, k ≤ d
 → ACalls prog 13 [.ag 9] [.dg 9 x1] d (fun j k => d ≤ k → Bel k j → ∀ d, k ≤ d → ACalls prog 15 [.bool] [.dg 9 g, .dg 9 j] d (fun
 j k => d ≤ k → Br (!j) (∀ a, k ≤ a → Q false a) (Tree (D.sl c 4 e f) ∧ Low N (D.sl c 4 e f) ∧ Dis (D.sl c 4 e f) [D.sl
 a0 4 e0 c0, x1, a, g, h] ∧ ∀ d, k ≤ d → MC prog 17 (D.sl c 4 e f) 1 d (fun _ c e => d ≤ e → Tree g ∧ Low N g ∧ g = g
 ∧ Dis g [D.sl a0 4 e0 c0, x1, a, h] ∧ ∀ d, e ≤ d → MC prog 18 g c d (fun c e f => d ≤ f → Br (decide (e < 0)) (∀ a, f
 ≤ a → Q false a) (∀ d, f ≤ d → ACalls prog 15 [.bool] [.dg 9 h, .dg 9 a] d (fun e f => d ≤ f → Br (!e) (∀ a, f ≤ a →
 Q false a) (Br (!(i == b)) (∀ a, f ≤ a → Q false a) (Tree h ∧ Low N h ∧ h = h ∧ Dis h [D.sl a0 4 e0 c0, x1, a, c] ∧ ∀ c, f ≤
 c → MC prog 18 h 1 c (fun d e f => c ≤ f → ∀ c, f ≤ c → ACalls prog 19 [.int .i64] [.dg 9 d, .int .i64 1] c (fun f g => c
 ≤ g → Br (decide (f < 0)) (∀ a, g ≤ a → Q false a) (Br (bne f e) (∀ a, g ≤ a → Q false a) (∀ c, g ≤ c → ACalls prog 12
 [.sl 4] [.sv a0 4 e0 c0] c (fun f g h i => c ≤ i → Bel i (D.sl f 4 g h) → ∀ c, i ≤ c → ACalls prog 13 [.ag 9] [.dg 9 x1] c
 (fun i j => c ≤ j → Bel j i → ∀ c, j ≤ c → ACalls prog 28 [.ag 9, .bool] [.sv f 4 g h, .dg 9 i] c (fun f g h => c
 ≤ h → Bel h f → ∀ c, h ≤ c → ACalls prog 15 [.bool] [.dg 9 f, .dg 9 a] c (fun a f => c ≤ f → Br (!a) (∀ a, f ≤ a →
 Q false a) (Br (!(g == b)) (∀ a, f ≤ a → Q false a) (∀ a, f ≤ a → ACalls prog 19 [.int .i64] [.dg 9 d, .int .i64 1] a (fun b c
 => a ≤ c → Br (decide (b < 0)) (∀ a, c ≤ a → Q false a) (Br (bne b e) (∀ a, c ≤ a → Q false a) (∀ a, c ≤ a → Q true
 a))))))))))))))))))))))))))))))))))))))) : ACalls prog 6 [.bool] [PV.sv a0 4 e0 c0, PV.dg 9 x1] N Q :=
  eE (H := H_laws_FnExactStageBody) (by kernel_rfl) (by kernel_rfl) h
theorem l_spec_FunctionOf_3 (Q : QT [.ag 9]) (N0 : Nat) (a0 : Option Addr) (e0 : List D) (c0 : Nat) (n6 n0_0 : Int) (s0_1 s0_2 : ByteArray) (n0_3 n0_4 : Int) (a0_5 : Option Addr) (e0_5 : List D) (c0_5 : Nat) (n0_6 : Int) (a0_7 : Option Addr) (e0_7 : List D) (c0_7 : Nat) (a0_8 : Option Addr) (e0_8 : List D) (c0_8 : Nat) (n1_0 : Int) (s1_1 s1_2 : ByteArray) (n1_3 : Int) (x1_4 x1_5 x1_6 x1_7 : D) (m1_8 c1_8 : Nat) (r2 : List D) (q2 : Nat) (N : Nat) (h :
Br (decide (n6 ≥ 0)) ((0 ≤ n6 ∧ n6 < (e0.length : Int)) ∧ ∃ s, (if 0 = 0 then D.cell (List.getD e0 n6.toNat default) 0 else D.sub (List.getD e0 n6.toNat default)
 0 0) = D.lit (.string s) ∧ (0 ≤ n6 ∧ n6 < (e0.length : Int)) ∧ (m1_8 = r2.length ∧ c1_8 = q2) ∧ (m1_8 = r2.length ∧ c1_8 = q2) ∧ ∀ a b, N ≤ b → Fresh N0 b
 a [D.ag r2] → ∀ c, b ≤ c → ACalls prog 122 [.ag 9] [.str s, .dg 2 (if 2 = 0 then D.cell (List.getD e0 n6.toNat default) 1 else D.sub (List.getD e0 n6.toNat
 default) 1 2), .dg 9 (D.ag [D.lit (.int .i64 n1_0), D.lit (.string s1_1), D.lit (.string s1_2), D.lit (.int .i64 n1_3), x1_4, x1_5, x1_6, x1_7, D.sl a 9 r2 q2])]
 c (fun x a => c ≤ a → Bel a x → L_spec_FunctionOf_3_v1 Q N0 a0 e0 c0 (IntKind.i64.wrap (n6 - 1)) n0_0 s0_1 s0_2 n0_3 n0_4 a0_5 e0_5 c0_5 n0_6 a0_7 e0_7
 c0_7 a0_8 e0_8 c0_8 x a)) ((m1_8 = r2.length ∧ c1_8 = q2) ∧ (m1_8 = r2.length ∧ c1_8 = q2) ∧ (m1_8 = r2.length ∧ c1_8 = q2) ∧ ∀ a b, N ≤ b → Fresh N0 b
 a [D.ag r2, x1_4, x1_5, x1_6, x1_7] → ∀ c, b ≤ c → Q (D.ag [D.lit (.int .i64 n1_0), D.lit (.string s1_1), D.lit (.string s1_2), D.lit (.int .i64 n1_3), x1_4,
 x1_5, x1_6, x1_7, D.sl a 9 r2 q2]) c)) : L_spec_FunctionOf_3 Q N0 a0 e0 c0 n6 n0_0 s0_1 s0_2 n0_3 n0_4 a0_5 e0_5 c0_5 n0_6 a0_7 e0_7 c0_7 a0_8 e0_8 c0_8 n1_0 s1_1 s1_2 n1_3 x1_4 x1_5 x1_6 x1_7 m1_8 c1_8 r2 q2 N :=
  hE (H := H_spec_FunctionOf) (by kernel_rfl) h
theorem l_spec_FunctionOf_3_v1 (Q : QT [.ag 9]) (N0 : Nat) (a0 : Option Addr) (e0 : List D) (c0 : Nat) (n6 n0_0 : Int) (s0_1 s0_2 : ByteArray) (n0_3 n0_4 : Int) (a0_5 : Option Addr) (e0_5 : List D) (c0_5 : Nat) (n0_6 : Int) (a0_7 : Option Addr) (e0_7 : List D) (c0_7 : Nat) (a0_8 : Option Addr) (e0_8 : List D) (c0_8 : Nat) (y1 : D) (N : Nat) (h :
Br (decide (n6 ≥ 0)) ((0 ≤ n6 ∧ n6 < (e0.length : Int)) ∧ ∃ s, (if 0 = 0 then D.cell (List.getD e0 n6.toNat default) 0 else D.sub (List.getD e0 n6.toNat default)
 0 0) = D.lit (.string s) ∧ (0 ≤ n6 ∧ n6 < (e0.length : Int)) ∧ ∀ a, N ≤ a → ACalls prog 122 [.ag 9] [.str s, .dg 2 (if 2 = 0 then D.cell (List.getD e0 n6.toNat
 default) 1 else D.sub (List.getD e0 n6.toNat default) 1 2), .dg 9 y1] a (fun x b => a ≤ b → Bel b x → L_spec_FunctionOf_3_v1 Q N0 a0 e0 c0 (IntKind.i64.wrap
 (n6 - 1)) n0_0 s0_1 s0_2 n0_3 n0_4 a0_5 e0_5 c0_5 n0_6 a0_7 e0_7 c0_7 a0_8 e0_8 c0_8 x b)) (∀ a, N ≤ a → Q y1 a)) : L_spec_FunctionOf_3_v1 Q N0 a0 e0 c0 n6 n0_0 s0_1 s0_2 n0_3 n0_4 a0_5 e0_5 c0_5 n0_6 a0_7 e0_7 c0_7 a0_8 e0_8 c0_8 y1 N :=
  hE (H := H_spec_FunctionOf) (by kernel_rfl) h

end Go.Proofs.YtfkmegifjiiclaaGreat
