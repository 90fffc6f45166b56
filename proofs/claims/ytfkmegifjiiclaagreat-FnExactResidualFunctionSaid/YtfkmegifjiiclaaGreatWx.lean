/- Printed by gen.py: what the functions come to. -/
import Derived.Test.YtfkmegifjiiclaaGreatJh
set_option linter.unusedVariables false
set_option maxRecDepth 100000
namespace Go.Proofs.YtfkmegifjiiclaaGreat
open Go Go.Proofs Go.Proofs.Tryz
def zGX : Hint := ⟨[], [], []⟩
def zHX : Hint := ⟨[], [], []⟩
def zAm : Hint := ⟨[], [], []⟩
def s8 : Hint := ⟨[hc 3 [0, 3, 4] [(3, 116, 2)]], [], [(5, [en 0, en 1, en 2, en 3, en 4, en 5, en 6, en 7, en 8, en 9, en 10, en 11, en 12, eh 13, eh 14])]⟩
def zC5 : Hint := ⟨[], [], [(1, hs 9 [ec 2 [11]]), (2, [en 0, en 1, en 2, eh 3, ec 4 [16], ec 5 [15], eh 6])]⟩
def sA : Hint := ⟨[hc 3 [0, 3, 4] [(3, 133, 2)]], [], [(5, [en 0, en 1, en 2, en 3, en 4, en 5, en 6, en 7, en 8, en 9, en 10, en 11, en 12, eh 13, eh 14])]⟩
def zDn : Hint := ⟨[], [], []⟩
def zHB : Hint := ⟨[], [], [(1, hs 12 [ec 5 [16]]), (2, hs 6 [ec 4 [23]]), (3, [en 0, en 1, en 2, en 3, en 4, eh 5, ec 6 [28], en 7]), (4, [en 0, en 1, en 2, en 3, en 4, eh 5, ec 6 [36], en 7]), (5, [en 0, en 1, en 2, en 3, en 4, en 5, en 6, en 7, en 8, en 10, eh 9, ec 11 [43], eh 12]), (6, [en 0, en 1, en 2, en 3, en 4, en 5, en 6, en 7, en 9, en 10, en 11, en 12, en 13, en 14, en 15, en 16, en 18, ec 8 [57], eh 17, ec 19 [64], ec 20 [60, 71], eh 21])]⟩
def p5 : Hint := ⟨[hc 10 [1, 2, 3, 6, 8, 9]], [], [(2, hs 5 [ec 2 [13]]), (3, hs 5 [ec 3 [17]]), (4, hs 13 [ec 9 [29]]), (5, [en 0, en 1, en 2, en 3, en 4, en 5, en 6, en 12, en 13, eh 7, ec 8 [39], en 9, en 10, en 11, ec 14 [45], eh 15]), (7, hs 5 [ec 3 [53]]), (8, hs 4 [ec 1 [57]]), (12, [en 0, en 1, en 2, en 3, en 4, en 5, en 6, en 7, en 8, en 9, ec 10 [73], en 11, eh 12])]⟩
def uT : Hint := ⟨[hc 4 [0, 4, 5, 6] [(4, 71, 4), (5, 71, 4)]], [], [(6, [en 0, en 1, en 2, en 3, en 4, en 5, en 6, en 7, en 8, en 9, en 11, en 12, en 13, en 14, en 15, en 17, ec 10 [25], en 16, eh 18])]⟩
def u6 : Hint := ⟨[hc 8 [0, 2, 4, 6, 12, 13, 14] [(12, 90, 3)]], [], [(1, hs 9 [ec 2 [18]]), (10, [en 0, en 1, en 2, en 3, en 4, en 5, en 6, en 7, en 8, en 9, en 10, en 11, eh 12]), (12, [en 0, en 1, en 2, en 3, en 4, en 5, en 6, en 7, en 8, ec 9 [62], en 10]), (17, [en 0, en 1, en 2, eh 3, ec 4 [81], eh 5, en 6])]⟩
def uB : Hint := ⟨[hc 3 [4, 5, 11, 12, 13] [(4, 71, 4), (5, 71, 4)]], [], [(5, [en 0, en 1, en 2, en 3, en 5, en 6, en 8, ec 4 [20], en 7, eh 9])]⟩
def zH3 : Hint := ⟨[], [], []⟩
def zEh : Hint := ⟨[], [], []⟩
def zDs : Hint := ⟨[], [], [(1, [en 0, en 1, en 2, en 3, en 4, en 5, en 6, en 7, ec 8 [12], en 9, en 10, eh 11, en 12])]⟩
def wq : Hint := ⟨[hc 12 [0, 1, 5, 6, 8, 93, 94, 95] [(8, 36, 9)]], [], [(1, hs 4 [ec 2 [12, 13]]), (2, [en 0, en 1, en 3, en 4, ec 2 [16, 17], ec 5 [19, 20], en 6, en 7, eh 8, eh 9]), (4, hs 3 [ec 1 [29]]), (5, hs 13 [ec 9 [36, 40]]), (6, [en 0, en 1, en 2, en 3, en 4, en 5, en 6, en 7, en 8, ec 9 [48, 52], en 10, en 11, en 12, ec 13 [44, 45, 56], eh 14]), (7, hs 13 [ec 9 [63, 67]]), (8, [en 0, en 1, en 2, en 3, en 4, en 5, en 6, en 9, ec 7 [73, 77], en 8, eh 10]), (9, [en 0, en 1, en 3, en 4, en 6, en 7, en 8, en 9, ec 2 [80], ec 5 [83, 84], ec 10 [82, 85, 89], eh 11]), (16, hs 4 [ec 2 [108, 109]]), (17, [en 0, en 1, en 2, en 3, en 5, en 6, ec 4 [112, 113], ec 7 [115, 116, 117], en 8, eh 9, eh 10]), (19, hs 4 [ec 2 [122, 123]])]⟩
def uv : Hint := ⟨[hc 7 [0, 2, 4, 6, 12, 36, 37, 38] [(12, 97, 4)]], [], [(2, hs 9 [ec 2 [22]]), (11, [en 0, en 1, en 3, en 4, eh 2, ec 5 [55], eh 6, en 7])]⟩
def wO : Hint := ⟨[hc 2 [0, 1, 5]], [], []⟩
def xH (Q : QT [.sl 2]) (N0 : Nat) (a0 : Option Addr) (e0 : List D) (c0 m3 c3 : Nat) (n4 : Int) (r0 : List D) (q0 : Nat) (N : Nat) : Prop := AT prog 114 [.sl 2] Q N0 .ord (zF prog 114 3) ⟨.sv a0 3 e0 c0 :: an 2 (.sb 0 2 0 m3 c3 :: .int .i64 n4 :: an 22 []), [.arr 116 2 r0 q0], N, none⟩
def y6 (Q : QT [.sl 2]) (N0 : Nat) (a0 : Option Addr) (e0 : List D) (c0 m3 c3 : Nat) (n4 : Int) (r0 : List D) (q0 : Nat) (N : Nat) : Prop := AT prog 116 [.sl 2] Q N0 .ord (zF prog 116 3) ⟨.sv a0 3 e0 c0 :: an 2 (.sb 0 2 0 m3 c3 :: .int .i64 n4 :: an 22 []), [.arr 133 2 r0 q0], N, none⟩
def yK (Q : QT [.ag 9]) (N0 : Nat) (a1 : Option Addr) (e1 : List D) (c1 : Nat) (a2 : Option Addr) (e2 : List D) (c2 : Nat) (n9 : Int) (y0 : D) (n1_0 : Int) (s1_1 s1_2 : ByteArray) (n1_3 n1_4 : Int) (a1_5 : Option Addr) (e1_5 : List D) (c1_5 : Nat) (n1_6 : Int) (a1_7 : Option Addr) (e1_7 : List D) (c1_7 : Nat) (a1_8 : Option Addr) (e1_8 : List D) (c1_8 : Nat) (n2_0 : Int) (s2_1 s2_2 : ByteArray) (n2_3 : Int) (x2_4 x2_5 x2_6 x2_7 : D) (m2_8 c2_8 : Nat) (r3 : List D) (q3 : Nat) (N : Nat) : Prop := AT prog 60 [.ag 9] Q N0 .ord (zF prog 60 10) ⟨an 1 (.sv a1 3 e1 c1 :: .sv a2 4 e2 c2 :: .pb 0 0 0 0 :: an 2 (.pb 1 0 0 0 :: an 1 (.pb 2 0 0 0 :: .int .i64 n9 :: an 69 []))), [.vd y0 9, .var [.int .i64 n1_0, .str s1_1, .str s1_2, .int .i64 n1_3, .int .i64 n1_4, .sv a1_5 2 e1_5 c1_5, .int .i64 n1_6, .sv a1_7 2 e1_7 c1_7, .sv a1_8 9 e1_8 c1_8], .var [.int .i64 n2_0, .str s2_1, .str s2_2, .int .i64 n2_3, .dc x2_4, .dc x2_5, .dc x2_6, .dc x2_7, .sb 3 9 0 m2_8 c2_8], .arr 36 9 r3 q3], N, none⟩
def z9 (Q : QT [.sl 4, .sl 4]) (N0 : Nat) (a0 : Option Addr) (e0 : List D) (c0 m4 c4 m5 c5 : Nat) (n6 : Int) (r0 : List D) (q0 : Nat) (r1 : List D) (q1 : Nat) (N : Nat) : Prop := AT prog 54 [.sl 4, .sl 4] Q N0 .ord (zF prog 54 4) ⟨.sv a0 4 e0 c0 :: an 3 (.sb 0 4 0 m4 c4 :: .sb 1 4 0 m5 c5 :: .int .i64 n6 :: an 38 []), [.arr 71 4 r0 q0, .arr 71 4 r1 q1], N, none⟩
def yE (Q : QT [.ag 9, .bool]) (N0 : Nat) (a0 : Option Addr) (e0 : List D) (c0 : Nat) (a2 : Option Addr) (e2 : List D) (c2 m12 c12 : Nat) (n13 n14 : Int) (y0 : D) (n1_0 : Int) (s1_1 s1_2 : ByteArray) (n1_3 n1_4 : Int) (a1_5 : Option Addr) (e1_5 : List D) (c1_5 : Nat) (n1_6 : Int) (a1_7 : Option Addr) (e1_7 : List D) (c1_7 : Nat) (a1_8 : Option Addr) (e1_8 : List D) (c1_8 : Nat) (r2 : List D) (q2 : Nat) (N : Nat) : Prop := AT prog 24 [.ag 9, .bool] Q N0 .ord (zF prog 24 8) ⟨.sv a0 4 e0 c0 :: an 1 (.sv a2 0 e2 c2 :: an 1 (.pb 0 0 0 0 :: an 1 (.pb 1 0 0 0 :: an 5 (.sb 2 3 0 m12 c12 :: .int .i64 n13 :: .int .i64 n14 :: an 71 [])))), [.vd y0 9, .var [.int .i64 n1_0, .str s1_1, .str s1_2, .int .i64 n1_3, .int .i64 n1_4, .sv a1_5 2 e1_5 c1_5, .int .i64 n1_6, .sv a1_7 2 e1_7 c1_7, .sv a1_8 9 e1_8 c1_8], .arr 90 3 r2 q2], N, none⟩
def z6 (Q : QT [.sl 4, .sl 4]) (N0 : Nat) (m4 c4 m5 c5 : Nat) (a11 : Option Addr) (e11 : List D) (c11 : Nat) (n12 n13 : Int) (r0 : List D) (q0 : Nat) (r1 : List D) (q1 : Nat) (N : Nat) : Prop := AT prog 56 [.sl 4, .sl 4] Q N0 .ord (zF prog 56 3) ⟨an 4 (.sb 0 4 0 m4 c4 :: .sb 1 4 0 m5 c5 :: an 5 (.sv a11 4 e11 c11 :: .int .i64 n12 :: .int .i64 n13 :: an 24 [])), [.arr 71 4 r0 q0, .arr 71 4 r1 q1], N, none⟩
def zD (Q : QT [.ag 9]) (N0 : Nat) (a0 : Option Addr) (e0 : List D) (c0 : Nat) (a1 : Option Addr) (e1 : List D) (c1 m8 c8 : Nat) (a93 : Option Addr) (e93 : List D) (c93 : Nat) (n94 n95 : Int) (y0 : D) (n1_0 : Int) (s1_1 s1_2 : ByteArray) (n1_3 n1_4 : Int) (a1_5 : Option Addr) (e1_5 : List D) (c1_5 : Nat) (n1_6 : Int) (a1_7 : Option Addr) (e1_7 : List D) (c1_7 : Nat) (a1_8 : Option Addr) (e1_8 : List D) (c1_8 : Nat) (r2 : List D) (q2 : Nat) (N : Nat) : Prop := AT prog 63 [.ag 9] Q N0 .ord (zF prog 63 12) ⟨.sv a0 3 e0 c0 :: .sv a1 4 e1 c1 :: an 3 (.pb 0 0 0 0 :: .pb 1 0 0 0 :: an 1 (.sb 2 9 0 m8 c8 :: an 84 (.sv a93 9 e93 c93 :: .int .i64 n94 :: .int .i64 n95 :: an 29 []))), [.vd y0 9, .var [.int .i64 n1_0, .str s1_1, .str s1_2, .int .i64 n1_3, .int .i64 n1_4, .sv a1_5 2 e1_5 c1_5, .int .i64 n1_6, .sv a1_7 2 e1_7 c1_7, .sv a1_8 9 e1_8 c1_8], .arr 36 9 r2 q2], N, none⟩
def yu (Q : QT [.ag 9, .bool]) (N0 : Nat) (a0 : Option Addr) (e0 : List D) (c0 : Nat) (a2 : Option Addr) (e2 : List D) (c2 m12 c12 : Nat) (a36 : Option Addr) (e36 : List D) (c36 : Nat) (n37 n38 : Int) (y0 : D) (n1_0 : Int) (s1_1 s1_2 : ByteArray) (n1_3 n1_4 : Int) (a1_5 : Option Addr) (e1_5 : List D) (c1_5 : Nat) (n1_6 : Int) (a1_7 : Option Addr) (e1_7 : List D) (c1_7 : Nat) (a1_8 : Option Addr) (e1_8 : List D) (c1_8 : Nat) (r2 : List D) (q2 : Nat) (N : Nat) : Prop := AT prog 25 [.ag 9, .bool] Q N0 .ord (zF prog 25 7) ⟨.sv a0 4 e0 c0 :: an 1 (.sv a2 0 e2 c2 :: an 1 (.pb 0 0 0 0 :: an 1 (.pb 1 0 0 0 :: an 5 (.sb 2 4 0 m12 c12 :: an 23 (.sv a36 4 e36 c36 :: .int .i64 n37 :: .int .i64 n38 :: an 18 []))))), [.vd y0 9, .var [.int .i64 n1_0, .str s1_1, .str s1_2, .int .i64 n1_3, .int .i64 n1_4, .sv a1_5 2 e1_5 c1_5, .int .i64 n1_6, .sv a1_7 2 e1_7 c1_7, .sv a1_8 9 e1_8 c1_8], .arr 97 4 r2 q2], N, none⟩
def ue (Q : QT [.int .i64]) (N0 : Nat) (a0 : Option Addr) (e0 : List D) (c0 : Nat) (n1 n5 : Int) (N : Nat) : Prop := AT prog 26 [.int .i64] Q N0 .ord (zF prog 26 2) ⟨.sv a0 0 e0 c0 :: .int .i64 n1 :: an 3 (.int .i64 n5 :: an 13 []), [], N, none⟩
def yb (T : List Nat) (b0 : Nat) (QM : Int → D → Nat → Prop) (N0 : Nat) (m0 c0 : Nat) (n1 n5 : Int) (t0 : Nat) (r0 : List D) (q0 : Nat) (N : Nat) : Prop := AT prog 26 [] noQ N0 (.mk T (some b0) (0, 0) QM) (zF prog 26 2) ⟨.sb 0 0 0 m0 c0 :: .int .i64 n1 :: an 3 (.int .i64 n5 :: an 13 []), [.arr t0 0 r0 q0], N, some ([some b0], T)⟩
theorem zG2 (N : Nat) (n0 : Int) (Q : QT [.ag 9]) (h :
∀ a, N ≤ a → Q (D.ag [D.lit (.int .i64 3), D.lit (.string (bytes [])), D.lit (.string (bytes [])), D.lit (.int .i64 n0), D.lit (.int .i64 0), D.sl Option.none
 2 [] 0, D.lit (.int .i64 0), D.sl Option.none 2 [] 0, D.sl Option.none 9 [] 0]) a) : ACalls prog 197 [.ag 9] [PV.int .i64 n0] N Q :=
  eE (H := zGX) (by kernel_rfl) (by kernel_rfl) h
theorem zIn (N : Nat) (n0 : Int) (Q : QT [.ag 9]) (h :
∀ a, N ≤ a → Q (D.ag [D.lit (.int .i64 2), D.lit (.string (bytes [])), D.lit (.string (bytes [])), D.lit (.int .i64 n0), D.lit (.int .i64 0), D.sl Option.none
 2 [] 0, D.lit (.int .i64 0), D.sl Option.none 2 [] 0, D.sl Option.none 9 [] 0]) a) : ACalls prog 198 [.ag 9] [PV.int .i64 n0] N Q :=
  eE (H := zHX) (by kernel_rfl) (by kernel_rfl) h
theorem zAz (N : Nat) (x0 : D) (n1 : Int) (Q : QT [.ag 9]) (h :
Bel N x0 → ∃ n : Int, (x0.cell 0) = D.lit (.int .i64 n) ∧ Br (n == 2) (∀ a, N ≤ a → ACalls prog 197 [.ag 9] [.int .i64 n1] a (fun x b => a ≤ b → Bel
 b x → ∀ a, b ≤ a → Q x a)) (∀ a, N ≤ a → ACalls prog 198 [.ag 9] [.int .i64 n1] a (fun b c => a ≤ c → Bel c b → ∀ a, c ≤ a → Q
 b a))) : ACalls prog 155 [.ag 9] [PV.dg 2 x0, PV.int .i64 n1] N Q :=
  eE (H := zAm) (by kernel_rfl) (by kernel_rfl) h
theorem zDE (N : Nat) (a0 : Option Addr) (e0 : List D) (c0 : Nat) (Q : QT [.sl 2]) (h :
Bel N (D.sl a0 3 e0 c0) → xH Q N a0 e0 c0 0 0 0 [] 0 N) : ACalls prog 114 [.sl 2] [PV.sv a0 3 e0 c0] N Q :=
 eE (H := s8) (by kernel_rfl) (by kernel_rfl) h
theorem zDN (N : Nat) (x0 : D) (a1 : Option Addr) (e1 : List D) (c1 : Nat) (a2 : Option Addr) (e2 : List D) (c2 : Nat) (Q : QT [.ag 9]) (h :
Bel N x0 → Bel N (D.sl a1 3 e1 c1) → Bel N (D.sl a2 4 e2 c2) → ∀ d, N ≤ d → ACalls prog 88 [.ag 2, .bool] [.sv a2 4 e2 c2, .dg 9 x0, .int .i64 0] d (fun x
 _ b => d ≤ b → Bel b x → ∀ d, b ≤ d → ACalls prog 116 [.sl 2] [.sv a1 3 e1 c1] d (fun a b c e => d ≤ e → Bel e (D.sl a 2 b c) → ∀ d,
 e ≤ d → ACalls prog 110 [.int .i64] [.dg 9 x0, .sv a 2 b c] d (fun n a => d ≤ a → ∀ b, a ≤ b → ACalls prog 155 [.ag 9] [.dg 2 x, .int .i64 n]
 b (fun a c => b ≤ c → Bel c a → ∀ b, c ≤ b → Q a b))))) : ACalls prog 115 [.ag 9] [PV.dg 9 x0, PV.sv a1 3 e1 c1, PV.sv a2 4 e2 c2] N Q :=
  eE (H := zC5) (by kernel_rfl) (by kernel_rfl) h
theorem zBm (N : Nat) (a0 : Option Addr) (e0 : List D) (c0 : Nat) (Q : QT [.sl 2]) (h :
Bel N (D.sl a0 3 e0 c0) → y6 Q N a0 e0 c0 0 0 0 [] 0 N) : ACalls prog 116 [.sl 2] [PV.sv a0 3 e0 c0] N Q :=
 eE (H := sA) (by kernel_rfl) (by kernel_rfl) h
theorem zEk (N : Nat) (a0 : Option Addr) (e0 : List D) (c0 : Nat) (x1 : D) (Q : QT [.sl 3]) (h :
Bel N (D.sl a0 3 e0 c0) → Bel N x1 → (0 = 0 ∧ 0 = 0) ∧ zB [] e0 32 ∧ ∀ (c : Nat), (([] ++ e0).length = ([] ++ e0).length ∧ c = c) ∧ zB ([] ++ e0) [x1]
 32 ∧ ∀ (b : Nat), ((([] ++ e0) ++ [x1]).length = (([] ++ e0) ++ [x1]).length ∧ b = b) ∧ ((([] ++ e0) ++ [x1]).length = (([] ++ e0) ++ [x1]).length ∧ b =
 b) ∧ ∀ a c, N ≤ c → Fresh N c a [D.ag (([] ++ e0) ++ [x1])] → ∀ d, c ≤ d → Q a (([] ++ e0) ++ [x1]) b d) : ACalls prog 157 [.sl 3] [PV.sv a0 3 e0 c0, PV.dg 3 x1] N Q :=
  eE (H := zDn) (by kernel_rfl) (by kernel_rfl) h
theorem zFa (N : Nat) (x0 : D) (a1 : Option Addr) (e1 : List D) (c1 : Nat) (a2 : Option Addr) (e2 : List D) (c2 : Nat) (Q : QT [.ag 9]) (h :
Bel N x0 → Bel N (D.sl a1 3 e1 c1) → Bel N (D.sl a2 4 e2 c2) → ∃ a d, ∃ c : Nat, (x0.cell 8) = D.sl a 9 d c ∧ ((0 : Int) ≤ (0 : Int) ∧ 0 < (d.length : Int)) ∧
 ∀ a, N ≤ a → ACalls prog 88 [.ag 2, .bool] [.sv a2 4 e2 c2, .dg 9 (List.getD d 0 default), .int .i64 0] a (fun x _ b => a ≤ b → Bel b x → ∃ s, (x0.cell
 1) = D.lit (.string s) ∧ ∀ a, b ≤ a → ACalls prog 156 [.sl 4] [.sv a2 4 e2 c2, .str s, .dg 2 x, .int .i64 0] a (fun b c d e => a ≤ e → Bel e
 (D.sl b 4 c d) → ∃ a f, ∃ g : Nat, (x0.cell 8) = D.sl a 9 f g ∧ ((0 : Int) ≤ (0 : Int) ∧ 0 < (f.length : Int)) ∧ ∀ a, e ≤ a → ACalls
 prog 114 [.sl 2] [.sv a1 3 e1 c1] a (fun e g h i => a ≤ i → Bel i (D.sl e 2 g h) → ∀ a, i ≤ a → ACalls prog 89 [.bool] [.dg 9 (List.getD
 f 0 default), .sv e 2 g h] a (fun e f => a ≤ f → Br (!e) (∃ a e, ∃ g : Nat, (x0.cell 8) = D.sl a 9 e g ∧ ((0 : Int) ≤ (0 : Int)
 ∧ 0 < (e.length : Int)) ∧ ∀ a, f ≤ a → ACalls prog 116 [.sl 2] [.sv a1 3 e1 c1] a (fun f g h i => a ≤ i → Bel i (D.sl f 2 g h)
 → ∀ a, i ≤ a → ACalls prog 110 [.int .i64] [.dg 9 (List.getD e 0 default), .sv f 2 g h] a (fun n e => a ≤ e → ∃ a f, ∃ g :
 Nat, (x0.cell 8) = D.sl a 9 f g ∧ ((0 : Int) ≤ (1 : Int) ∧ 1 < (f.length : Int)) ∧ ∃ a, (x0.cell 1) = D.lit (.string a) ∧ ∀ g, e ≤ g → ACalls
 prog 157 [.sl 3] [.sv a1 3 e1 c1, .dg 3 (D.ag [D.lit (.string a), D.lit (.bool false), D.lit (.int .i64 n)])] g (fun a e h i => g ≤ i → Bel
 i (D.sl a 3 e h) → ∀ g, i ≤ g → ACalls prog 60 [.ag 9] [.dg 9 (List.getD f 1 default), .sv a 3 e h, .sv b 4 c d] g (fun a
 b => g ≤ b → Bel b a → ∀ c, b ≤ c → Q a c))))) (∃ a, (x0.cell 1) = D.lit (.string a) ∧ ∃ e g, ∃ h : Nat, (x0.cell 8) = D.sl
 e 9 g h ∧ ((0 : Int) ≤ (0 : Int) ∧ 0 < (g.length : Int)) ∧ ∃ e h, ∃ i : Nat, (x0.cell 8) = D.sl e 9 h i ∧ ((0 : Int) ≤ (1 : Int) ∧ 1 < (h.length
 : Int)) ∧ ∃ e, (x0.cell 1) = D.lit (.string e) ∧ ∀ i, f ≤ i → ACalls prog 60 [.ag 9] [.dg 9 (List.getD g 0 default), .sv a1 3 e1 c1, .sv a2 4 e2 c2]
 i (fun f g => i ≤ g → Bel g f → ∀ i, g ≤ i → ACalls prog 157 [.sl 3] [.sv a1 3 e1 c1, .dg 3 (D.ag [D.lit (.string e), D.lit (.bool
 true), D.lit (.int .i64 0)])] i (fun e g j k => i ≤ k → Bel k (D.sl e 3 g j) → ∀ i, k ≤ i → ACalls prog 60 [.ag 9] [.dg
 9 (List.getD h 1 default), .sv e 3 g j, .sv b 4 c d] i (fun b c => i ≤ c → Bel c b → ∀ d, c ≤ d → ACalls prog 91
 [.ag 9] [.str a, .dg 9 f, .dg 9 b] d (fun a b => d ≤ b → Bel b a → ∀ c, b ≤ c → Q a c)))))))))) : ACalls prog 117 [.ag 9] [PV.dg 9 x0, PV.sv a1 3 e1 c1, PV.sv a2 4 e2 c2] N Q :=
  eE (H := zHB) (by kernel_rfl) (by kernel_rfl) h
theorem zFQ (N : Nat) (x0 : D) (a1 : Option Addr) (e1 : List D) (c1 : Nat) (a2 : Option Addr) (e2 : List D) (c2 : Nat) (Q : QT [.ag 9]) (h :
Bel N x0 → Bel N (D.sl a1 3 e1 c1) → Bel N (D.sl a2 4 e2 c2) → ∀ d, N ≤ d → ACalls prog 114 [.sl 2] [.sv a1 3 e1 c1] d (fun a c e f => d ≤ f → Bel f
 (D.sl a 2 c e) → ∀ d, f ≤ d → ACalls prog 89 [.bool] [.dg 9 x0, .sv a 2 c e] d (fun b f => d ≤ f → Br (!b) (∀ a, f ≤ a → ACalls prog 115 [.ag
 9] [.dg 9 x0, .sv a1 3 e1 c1, .sv a2 4 e2 c2] a (fun x b => a ≤ b → Bel b x → ∀ a, b ≤ a → Q x a)) (∃ n : Int, (x0.cell 0) = D.lit (.int .i64 n)
 ∧ Br (n == 5) (∃ b d, ∃ g : Nat, (x0.cell 8) = D.sl b 9 d g ∧ ((0 : Int) ≤ (0 : Int) ∧ 0 < (d.length : Int)) ∧ ∀ b, f ≤ b → ACalls prog 89
 [.bool] [.dg 9 (List.getD d 0 default), .sv a 2 c e] b (fun a c => b ≤ c → Br (!a) (∃ a b, ∃ d : Nat, (x0.cell 8) = D.sl a 9 b d ∧
 ∃ a d, ∃ e : Nat, (x0.cell 8) = D.sl a 9 d e ∧ ((0 : Int) ≤ (0 : Int) ∧ 0 < (d.length : Int)) ∧ ∀ a, c ≤ a → ACalls prog 116 [.sl 2] [.sv
 a1 3 e1 c1] a (fun c e f g => a ≤ g → Bel g (D.sl c 2 e f) → ∀ a, g ≤ a → ACalls prog 110 [.int .i64] [.dg 9 (List.getD d
 0 default), .sv c 2 e f] a (fun c d => a ≤ d → (0 ≤ IntKind.i64.wrap (2 - c) ∧ IntKind.i64.wrap (2 - c) < (b.length : Int)) ∧ ∀ a,
 d ≤ a → ACalls prog 60 [.ag 9] [.dg 9 (List.getD b (IntKind.i64.wrap (2 - c)).toNat default), .sv a1 3 e1 c1, .sv a2 4 e2 c2] a (fun b c => a
 ≤ c → Bel c b → ∀ a, c ≤ a → Q b a)))) (∃ a : Int, (x0.cell 0) = D.lit (.int .i64 a) ∧ Br (a == 8) (∀ a, c ≤ a → ACalls prog
 117 [.ag 9] [.dg 9 x0, .sv a1 3 e1 c1, .sv a2 4 e2 c2] a (fun b c => a ≤ c → Bel c b → ∀ a, c ≤ a → Q b a)) (∀ a, c ≤ a
 → ACalls prog 75 [Sh.pk, .int .i64, .str, .str, .int .i64, Sh.dc, Sh.dc, Sh.dc, Sh.dc, .row (OfNat.ofNat 36) 9] [.dg 9 x0] a (fun b s c d e f g h
 i j k => a ≤ k → Bel k (D.ag i) → yK Q N a1 e1 c1 a2 e2 c2 0 x0 0 (bytes []) (bytes []) 0 0 Option.none [] 0 0 Option.none [] 0
 Option.none [] 0 b s c d e f g h i.length j i j k))))) (∃ a : Int, (x0.cell 0) = D.lit (.int .i64 a) ∧ Br (a == 8) (∀ a, f
 ≤ a → ACalls prog 117 [.ag 9] [.dg 9 x0, .sv a1 3 e1 c1, .sv a2 4 e2 c2] a (fun b c => a ≤ c → Bel c b → ∀ a, c ≤ a → Q b a))
 (∀ a, f ≤ a → ACalls prog 75 [Sh.pk, .int .i64, .str, .str, .int .i64, Sh.dc, Sh.dc, Sh.dc, Sh.dc, .row (OfNat.ofNat 36) 9] [.dg 9 x0] a (fun b c
 d e f g h i j k l => a ≤ l → Bel l (D.ag j) → yK Q N a1 e1 c1 a2 e2 c2 0 x0 0 (bytes []) (bytes []) 0 0 Option.none
 [] 0 0 Option.none [] 0 Option.none [] 0 b c d e f g h i j.length k j k l))))))) : ACalls prog 60 [.ag 9] [PV.dg 9 x0, PV.sv a1 3 e1 c1, PV.sv a2 4 e2 c2] N Q :=
  eE (H := p5) (by kernel_rfl) (by kernel_rfl) h
theorem qt (N : Nat) (a0 : Option Addr) (e0 : List D) (c0 : Nat) (Q : QT [.sl 4, .sl 4]) (h :
Bel N (D.sl a0 4 e0 c0) → z9 Q N a0 e0 c0 0 0 0 0 0 [] 0 [] 0 N) : ACalls prog 54 [.sl 4, .sl 4] [PV.sv a0 4 e0 c0] N Q :=
 eE (H := uT) (by kernel_rfl) (by kernel_rfl) h
theorem zA7 (N : Nat) (a0 : Option Addr) (e0 : List D) (c0 : Nat) (x1 : D) (a2 : Option Addr) (e2 : List D) (c2 : Nat) (Q : QT [.ag 9, .bool]) (h :
Bel N (D.sl a0 4 e0 c0) → Bel N x1 → Bel N (D.sl a2 0 e2 c2) → ∀ d, N ≤ d → ACalls prog 39 [.ag 2, .bool] [.sv a0 4 e0 c0, .dg 9 x1] d (fun x b e => d
 ≤ e → Bel e x → ∀ d, e ≤ d → ACalls prog 54 [.sl 4, .sl 4] [.sv a0 4 e0 c0] d (fun a c e f g h i => d ≤ i → Bel i (D.sl a 4 c e) → Bel
 i (D.sl f 4 g h) → Br (!b) (∀ a, i ≤ a → Q (D.ag [D.lit (.int .i64 0), D.lit (.string (bytes [])), D.lit (.string (bytes [])), D.lit (.int .i64 0),
 D.lit (.int .i64 0), D.sl Option.none 2 [] 0, D.lit (.int .i64 0), D.sl Option.none 2 [] 0, D.sl Option.none 9 [] 0]) false a) (Br (bne (e2.length : Int) (c.length
 : Int)) (∀ a, i ≤ a → Q (D.ag [D.lit (.int .i64 0), D.lit (.string (bytes [])), D.lit (.string (bytes [])), D.lit (.int .i64 0), D.lit (.int .i64 0), D.sl
 Option.none 2 [] 0, D.lit (.int .i64 0), D.sl Option.none 2 [] 0, D.sl Option.none 9 [] 0]) false a) (yE Q N a0 e0 c0 a2 e2 c2 0 0 0 0 x1 0 (bytes
 []) (bytes []) 0 0 Option.none [] 0 0 Option.none [] 0 Option.none [] 0 [] 0 i))))) : ACalls prog 24 [.ag 9, .bool] [PV.sv a0 4 e0 c0, PV.dg 9 x1, PV.sv a2 0 e2 c2] N Q :=
  eE (H := u6) (by kernel_rfl) (by kernel_rfl) h
theorem qz (N : Nat) (a0 : Option Addr) (e0 : List D) (c0 : Nat) (Q : QT [.sl 4, .sl 4]) (h :
Bel N (D.sl a0 4 e0 c0) → z6 Q N 0 0 0 0 a0 e0 c0 (e0.length : Int) 0 [] 0 [] 0 N) : ACalls prog 56 [.sl 4, .sl 4] [PV.sv a0 4 e0 c0] N Q :=
 eE (H := uB) (by kernel_rfl) (by kernel_rfl) h
theorem zHL (N : Nat) (n0 : Int) (Q : QT [.ag 9]) (h :
∀ a, N ≤ a → Q (D.ag [D.lit (.int .i64 2), D.lit (.string (bytes [])), D.lit (.string (bytes [])), D.lit (.int .i64 n0), D.lit (.int .i64 0), D.sl Option.none
 2 [] 0, D.lit (.int .i64 0), D.sl Option.none 2 [] 0, D.sl Option.none 9 [] 0]) a) : ACalls prog 159 [.ag 9] [PV.int .i64 n0] N Q :=
  eE (H := zH3) (by kernel_rfl) (by kernel_rfl) h
theorem zD0 (N : Nat) (n0 : Int) (b1 : Bool) (Q : QT [.ag 9]) (h :
Br b1 (∀ a, N ≤ a → Q (D.ag [D.lit (.int .i64 3), D.lit (.string (bytes [])), D.lit (.string (bytes [])), D.lit (.int .i64 n0), D.lit (.int .i64 0), D.sl Option.none
 2 [] 0, D.lit (.int .i64 0), D.sl Option.none 2 [] 0, D.sl Option.none 9 [] 0]) a) (∀ a, N ≤ a → ACalls prog 159 [.ag 9] [.int .i64 n0] a (fun x b => a
 ≤ b → Bel b x → ∀ a, b ≤ a → Q x a))) : ACalls prog 119 [.ag 9] [PV.int .i64 n0, PV.bool b1] N Q :=
  eE (H := zEh) (by kernel_rfl) (by kernel_rfl) h
theorem zDu (N : Nat) (a0 : Option Addr) (e0 : List D) (c0 : Nat) (x1 : D) (Q : QT [.sl 4]) (h :
Bel N (D.sl a0 4 e0 c0) → Bel N x1 → ∃ s, (x1.cell 1) = D.lit (.string s) ∧ ∃ a b, ∃ c : Nat, (x1.cell 8) = D.sl a 9 b c ∧ ((0 : Int) ≤ (0 : Int) ∧ 0 < (b.length
 : Int)) ∧ ∀ a, N ≤ a → ACalls prog 120 [.ag 2] [.sv a0 4 e0 c0, .dg 9 (List.getD b 0 default), .int .i64 0] a (fun x b => a ≤ b → Bel b x → (1 = ([D.ag
 [D.lit (.string s), (x.cell 0), (x.cell 1), D.lit (.int .i64 0)]]).length ∧ 1 = 1) ∧ ∀ a, ApA a [D.ag [D.lit (.string s), (x.cell 0), (x.cell 1), D.lit (.int
 .i64 0)]] → Off [a] (D.sl a0 4 e0 c0) → ∀ c, b ≤ c → rY c [a] → ACalls prog 162 [.sl 4] [.sv a0 4 e0 c0, .sv a 4 [D.ag [D.lit (.string s), (x.cell
 0), (x.cell 1), D.lit (.int .i64 0)]] 1] c (fun b d e f => c ≤ f → Off [a] (D.sl b 4 d e) ∧ (Bel f (D.sl b 4 d e) → ∀ a, f ≤
 a → Q b d e a)))) : ACalls prog 121 [.sl 4] [PV.sv a0 4 e0 c0, PV.dg 9 x1] N Q :=
  eE (H := zDs) (by kernel_rfl) (by kernel_rfl) h
theorem s4 (N : Nat) (a0 : Option Addr) (e0 : List D) (c0 : Nat) (a1 : Option Addr) (e1 : List D) (c1 : Nat) (x2 : D) (Q : QT [.ag 9]) (h :
Bel N (D.sl a0 3 e0 c0) → Bel N (D.sl a1 4 e1 c1) → Bel N x2 → ∀ d, N ≤ d → ACalls prog 102 [.bool] [.sv a0 3 e0 c0, .dg 9 x2] d (fun b e => d ≤ e →
 Br (!b) (∀ a, e ≤ a → ACalls prog 112 [.int .i64] [.sv a0 3 e0 c0, .dg 9 x2] a (fun n b => a ≤ b → ∀ a, b ≤ a → ACalls prog 120 [.ag 2] [.sv
 a1 4 e1 c1, .dg 9 x2, .int .i64 0] a (fun x b => a ≤ b → Bel b x → ∃ a : Int, (x.cell 0) = D.lit (.int .i64 a) ∧ ∀ c, b ≤ c → ACalls prog 119
 [.ag 9] [.int .i64 n, .bool (a == 2)] c (fun a b => c ≤ b → Bel b a → ∀ c, b ≤ c → Q a c)))) (∃ b : Int, (x2.cell 0) = D.lit (.int .i64
 b) ∧ Br (b == 1) (∀ a, e ≤ a → ACalls prog 104 [.ag 9] [.dg 9 x2] a (fun b c => a ≤ c → Bel c b → ∀ a, c ≤ a → Q b a))
 (∃ b : Int, (x2.cell 0) = D.lit (.int .i64 b) ∧ Br (b == 5) (∃ a b, ∃ c : Nat, (x2.cell 8) = D.sl a 9 b c ∧ ((0 : Int) ≤ (0 : Int) ∧ 0 < (b.length : Int))
 ∧ ∀ a, e ≤ a → ACalls prog 102 [.bool] [.sv a0 3 e0 c0, .dg 9 (List.getD b 0 default)] a (fun b c => a ≤ c → Br (!b) (∃ a b, ∃ d
 : Nat, (x2.cell 8) = D.sl a 9 b d ∧ ∃ a d, ∃ e : Nat, (x2.cell 8) = D.sl a 9 d e ∧ ((0 : Int) ≤ (0 : Int) ∧ 0 < (d.length : Int)) ∧ ∀ a,
 c ≤ a → ACalls prog 112 [.int .i64] [.sv a0 3 e0 c0, .dg 9 (List.getD d 0 default)] a (fun c d => a ≤ d → (0 ≤ IntKind.i64.wrap (2 - c)
 ∧ IntKind.i64.wrap (2 - c) < (b.length : Int)) ∧ ∀ a, d ≤ a → ACalls prog 63 [.ag 9] [.sv a0 3 e0 c0, .sv a1 4 e1 c1, .dg 9 (List.getD b (IntKind.i64.wrap
 (2 - c)).toNat default)] a (fun b c => a ≤ c → Bel c b → ∀ a, c ≤ a → Q b a))) (∃ a : Int, (x2.cell 0) = D.lit (.int .i64 a)
 ∧ Br (a == 8) (∃ a b, ∃ d : Nat, (x2.cell 8) = D.sl a 9 b d ∧ ((0 : Int) ≤ (0 : Int) ∧ 0 < (b.length : Int)) ∧ ∀ a, c ≤ a → ACalls prog
 102 [.bool] [.sv a0 3 e0 c0, .dg 9 (List.getD b 0 default)] a (fun b c => a ≤ c → Br (!b) (∃ s, (x2.cell 1) = D.lit (.string s) ∧ ∃ a b,
 ∃ d : Nat, (x2.cell 8) = D.sl a 9 b d ∧ ((0 : Int) ≤ (0 : Int) ∧ 0 < (b.length : Int)) ∧ ∀ a, c ≤ a → ACalls prog 112 [.int .i64] [.sv a0 3
 e0 c0, .dg 9 (List.getD b 0 default)] a (fun b c => a ≤ c → ∃ a d, ∃ e : Nat, (x2.cell 8) = D.sl a 9 d e ∧ ((0 : Int) ≤ (1 : Int)
 ∧ 1 < (d.length : Int)) ∧ ∀ a, c ≤ a → ACalls prog 101 [.sl 3] [.sv a0 3 e0 c0, .dg 3 (D.ag [D.lit (.string s), D.lit (.int .i64 b), D.lit (.bool false)])]
 a (fun b c e f => a ≤ f → Bel f (D.sl b 3 c e) → ∀ a, f ≤ a → ACalls prog 121 [.sl 4] [.sv a1 4 e1 c1, .dg 9 x2] a (fun
 f g h i => a ≤ i → Bel i (D.sl f 4 g h) → ∀ a, i ≤ a → ACalls prog 63 [.ag 9] [.sv b 3 c e, .sv f 4 g h, .dg 9 (List.getD
 d 1 default)] a (fun b c => a ≤ c → Bel c b → ∀ a, c ≤ a → Q b a))))) (∃ a b, ∃ d : Nat, (x2.cell 8) = D.sl a 9 b
 d ∧ zD Q N a0 e0 c0 a1 e1 c1 0 0 a b d (b.length : Int) 0 x2 0 (bytes []) (bytes []) 0 0 Option.none [] 0 0 Option.none [] 0 Option.none
 [] 0 [] 0 c))) (∃ a b, ∃ d : Nat, (x2.cell 8) = D.sl a 9 b d ∧ zD Q N a0 e0 c0 a1 e1 c1 0 0 a b d (b.length : Int)
 0 x2 0 (bytes []) (bytes []) 0 0 Option.none [] 0 0 Option.none [] 0 Option.none [] 0 [] 0 c)))) (∃ a : Int, (x2.cell 0) = D.lit (.int .i64 a) ∧ Br (a ==
 8) (∃ a b, ∃ c : Nat, (x2.cell 8) = D.sl a 9 b c ∧ ((0 : Int) ≤ (0 : Int) ∧ 0 < (b.length : Int)) ∧ ∀ a, e ≤ a → ACalls prog 102
 [.bool] [.sv a0 3 e0 c0, .dg 9 (List.getD b 0 default)] a (fun b c => a ≤ c → Br (!b) (∃ a, (x2.cell 1) = D.lit (.string a) ∧ ∃ b d,
 ∃ e : Nat, (x2.cell 8) = D.sl b 9 d e ∧ ((0 : Int) ≤ (0 : Int) ∧ 0 < (d.length : Int)) ∧ ∀ b, c ≤ b → ACalls prog 112 [.int .i64] [.sv
 a0 3 e0 c0, .dg 9 (List.getD d 0 default)] b (fun c d => b ≤ d → ∃ b e, ∃ f : Nat, (x2.cell 8) = D.sl b 9 e f ∧ ((0 : Int)
 ≤ (1 : Int) ∧ 1 < (e.length : Int)) ∧ ∀ b, d ≤ b → ACalls prog 101 [.sl 3] [.sv a0 3 e0 c0, .dg 3 (D.ag [D.lit (.string a), D.lit (.int .i64 c),
 D.lit (.bool false)])] b (fun a c d f => b ≤ f → Bel f (D.sl a 3 c d) → ∀ b, f ≤ b → ACalls prog 121 [.sl 4] [.sv a1
 4 e1 c1, .dg 9 x2] b (fun f g h i => b ≤ i → Bel i (D.sl f 4 g h) → ∀ b, i ≤ b → ACalls prog 63 [.ag 9] [.sv a 3 c
 d, .sv f 4 g h, .dg 9 (List.getD e 1 default)] b (fun a c => b ≤ c → Bel c a → ∀ b, c ≤ b → Q a b))))) (∃ a
 b, ∃ d : Nat, (x2.cell 8) = D.sl a 9 b d ∧ zD Q N a0 e0 c0 a1 e1 c1 0 0 a b d (b.length : Int) 0 x2 0 (bytes
 []) (bytes []) 0 0 Option.none [] 0 0 Option.none [] 0 Option.none [] 0 [] 0 c))) (∃ a b, ∃ c : Nat, (x2.cell 8) = D.sl a 9 b c ∧ zD
 Q N a0 e0 c0 a1 e1 c1 0 0 a b c (b.length : Int) 0 x2 0 (bytes []) (bytes []) 0 0 Option.none [] 0 0 Option.none [] 0 Option.none [] 0 [] 0 e))))) 
 ) : ACalls prog 63 [.ag 9] [PV.sv a0 3 e0 c0, PV.sv a1 4 e1 c1, PV.dg 9 x2] N Q :=
  eE (H := wq) (by kernel_rfl) (by kernel_rfl) h
theorem zA8 (N : Nat) (a0 : Option Addr) (e0 : List D) (c0 : Nat) (x1 : D) (a2 : Option Addr) (e2 : List D) (c2 : Nat) (Q : QT [.ag 9, .bool]) (h :
Bel N (D.sl a0 4 e0 c0) → Bel N x1 → Bel N (D.sl a2 0 e2 c2) → ∀ d, N ≤ d → ACalls prog 56 [.sl 4, .sl 4] [.sv a0 4 e0 c0] d (fun a c e f g h i =>
 d ≤ i → Bel i (D.sl a 4 c e) → Bel i (D.sl f 4 g h) → ∀ d, i ≤ d → ACalls prog 45 [.ag 2, .bool] [.sv a0 4 e0 c0, .dg 9 x1] d (fun x b f
 => d ≤ f → Bel f x → Br (!b) (∀ a, f ≤ a → Q (D.ag [D.lit (.int .i64 0), D.lit (.string (bytes [])), D.lit (.string (bytes [])), D.lit (.int .i64 0),
 D.lit (.int .i64 0), D.sl Option.none 2 [] 0, D.lit (.int .i64 0), D.sl Option.none 2 [] 0, D.sl Option.none 9 [] 0]) false a) (∀ b, f ≤ b → ACalls prog
 62 [.bool] [.sv a 4 c e, .sv a2 0 e2 c2] b (fun a c => b ≤ c → Br (!a) (∀ a, c ≤ a → Q (D.ag [D.lit (.int .i64 0), D.lit (.string (bytes [])),
 D.lit (.string (bytes [])), D.lit (.int .i64 0), D.lit (.int .i64 0), D.sl Option.none 2 [] 0, D.lit (.int .i64 0), D.sl Option.none 2 [] 0, D.sl Option.none 9 []
 0]) false a) (yu Q N a0 e0 c0 a2 e2 c2 0 0 a0 e0 c0 (e0.length : Int) 0 x1 0 (bytes []) (bytes []) 0 0 Option.none [] 0 0 Option.none [] 0 Option.none
 [] 0 [] 0 c)))))) : ACalls prog 25 [.ag 9, .bool] [PV.sv a0 4 e0 c0, PV.dg 9 x1, PV.sv a2 0 e2 c2] N Q :=
  eE (H := uv) (by kernel_rfl) (by kernel_rfl) h
theorem zCa (N : Nat) (a0 : Option Addr) (e0 : List D) (c0 : Nat) (n1 : Int) (Q : QT [.int .i64]) (h :
Bel N (D.sl a0 0 e0 c0) → ue Q N a0 e0 c0 n1 0 N) : ACalls prog 26 [.int .i64] [PV.sv a0 0 e0 c0, PV.int .i64 n1] N Q :=
 eE (H := wO) (by kernel_rfl) (by kernel_rfl) h
theorem zCx (N : Nat) (ad : Addr) (e0 : List D) (c0 : Nat) (n1 : Int) (R : D → Int → Nat → Prop) (QM : Int → D → Nat → Prop) (htree : Tree (.sl (some ad) 0 e0 c0)) (hne : e0 ≠ []) (hlen : e0.length ≤ maxLen) (h : ∀ t : Nat,
yb (D.foot (D.sl (Option.some ad) 0 e0 c0)) (Addr.block ad) QM N e0.length c0 n1 0 t e0 e0.length N)
  (hQ : ∀ k x N, QM k x N → ∃ es, x = .ag es ∧ es.length = e0.length ∧ zA es = zA e0 ∧ R (.sl (some ad) 0 es c0) k N) : MC prog 26 (.sl (some ad) 0 e0 c0) n1 N R :=
 zP3 (sh := sh) (H := wO) (fuel := 400) (by kernel_rfl) (by kernel_rfl) (fun t => by kernel_rfl) htree hne hlen h hQ
theorem uw (Q : QT [.sl 2]) (N0 : Nat) (a0 : Option Addr) (e0 : List D) (c0 m3 c3 : Nat) (n4 : Int) (r0 : List D) (q0 : Nat) (N : Nat) (h :
Br (decide (n4 < (e0.length : Int))) ((0 ≤ n4 ∧ n4 < (e0.length : Int)) ∧ ∃ s, (if 0 = 0 then D.cell (List.getD e0 n4.toNat default) 0 else D.sub (List.getD e0 n4.toNat
 default) 0 0) = D.lit (.string s) ∧ (0 ≤ n4 ∧ n4 < (e0.length : Int)) ∧ ∃ b : Bool, (if 0 = 0 then D.cell (List.getD e0 n4.toNat default) 1 else D.sub (List.getD
 e0 n4.toNat default) 1 0) = D.lit (.bool b) ∧ (m3 = r0.length ∧ c3 = q0) ∧ zB r0 [D.ag [D.lit (.string s), D.lit (.bool b)]] 24 ∧ ∀ (c : Nat), xH
 Q N0 a0 e0 c0 (r0 ++ [D.ag [D.lit (.string s), D.lit (.bool b)]]).length c (IntKind.i64.wrap (n4 + 1)) (r0 ++ [D.ag [D.lit (.string s), D.lit (.bool b)]]) c N) ((m3
 = r0.length ∧ c3 = q0) ∧ (m3 = r0.length ∧ c3 = q0) ∧ (m3 = r0.length ∧ c3 = q0) ∧ ∀ a b, N ≤ b → Fresh N0 b a [D.ag r0] → ∀ c, b ≤ c → Q a r0 q0 c) 
 ) : xH Q N0 a0 e0 c0 m3 c3 n4 r0 q0 N :=
  hE (H := s8) (by kernel_rfl) h
theorem uD (Q : QT [.sl 2]) (N0 : Nat) (a0 : Option Addr) (e0 : List D) (c0 m3 c3 : Nat) (n4 : Int) (r0 : List D) (q0 : Nat) (N : Nat) (h :
Br (decide (n4 < (e0.length : Int))) ((0 ≤ n4 ∧ n4 < (e0.length : Int)) ∧ ∃ s, (if 0 = 0 then D.cell (List.getD e0 n4.toNat default) 0 else D.sub (List.getD e0 n4.toNat
 default) 0 0) = D.lit (.string s) ∧ (0 ≤ n4 ∧ n4 < (e0.length : Int)) ∧ ∃ n : Int, (if 0 = 0 then D.cell (List.getD e0 n4.toNat default) 2 else D.sub (List.getD
 e0 n4.toNat default) 2 0) = D.lit (.int .i64 n) ∧ (m3 = r0.length ∧ c3 = q0) ∧ zB r0 [D.ag [D.lit (.string s), D.lit (.int .i64 n)]] 24 ∧ ∀ (c : Nat), y6
 Q N0 a0 e0 c0 (r0 ++ [D.ag [D.lit (.string s), D.lit (.int .i64 n)]]).length c (IntKind.i64.wrap (n4 + 1)) (r0 ++ [D.ag [D.lit (.string s), D.lit (.int .i64 n)]])
 c N) ((m3 = r0.length ∧ c3 = q0) ∧ (m3 = r0.length ∧ c3 = q0) ∧ (m3 = r0.length ∧ c3 = q0) ∧ ∀ a b, N ≤ b → Fresh N0 b a [D.ag r0] → ∀ c, b ≤ c → Q a
 r0 q0 c)) : y6 Q N0 a0 e0 c0 m3 c3 n4 r0 q0 N :=
  hE (H := sA) (by kernel_rfl) h
theorem sD (Q : QT [.ag 9]) (N0 : Nat) (a1 : Option Addr) (e1 : List D) (c1 : Nat) (a2 : Option Addr) (e2 : List D) (c2 : Nat) (n9 : Int) (y0 : D) (n1_0 : Int) (s1_1 s1_2 : ByteArray) (n1_3 n1_4 : Int) (a1_5 : Option Addr) (e1_5 : List D) (c1_5 : Nat) (n1_6 : Int) (a1_7 : Option Addr) (e1_7 : List D) (c1_7 : Nat) (a1_8 : Option Addr) (e1_8 : List D) (c1_8 : Nat) (n2_0 : Int) (s2_1 s2_2 : ByteArray) (n2_3 : Int) (x2_4 x2_5 x2_6 x2_7 : D) (m2_8 c2_8 : Nat) (r3 : List D) (q3 : Nat) (N : Nat) (h :
∃ a b, ∃ c : Nat, (y0.cell 8) = D.sl a 9 b c ∧ Br (decide (n9 < (b.length : Int))) (∃ a b, ∃ c : Nat, (y0.cell 8) = D.sl a 9 b c ∧ (0 ≤ n9 ∧ n9
 < (b.length : Int)) ∧ ∀ a, N ≤ a → ACalls prog 60 [.ag 9] [.dg 9 (List.getD b n9.toNat default), .sv a1 3 e1 c1, .sv a2 4 e2 c2] a (fun x b => a
 ≤ b → Bel b x → (0 ≤ n9 ∧ n9 < (m2_8 : Int) ∧ (0 + n9.toNat : Nat) < r3.length) ∧ (0 + n9.toNat : Nat) < r3.length ∧ yK Q N0 a1 e1 c1 a2 e2 c2
 (IntKind.i64.wrap (n9 + 1)) y0 n1_0 s1_1 s1_2 n1_3 n1_4 a1_5 e1_5 c1_5 n1_6 a1_7 e1_7 c1_7 a1_8 e1_8 c1_8 n2_0 s2_1 s2_2 n2_3 x2_4 x2_5 x2_6 x2_7 m2_8 c2_8 (List.set
 r3 (0 + n9.toNat : Nat) x) q3 b)) ((m2_8 = r3.length ∧ c2_8 = q3) ∧ (m2_8 = r3.length ∧ c2_8 = q3) ∧ (m2_8 = r3.length ∧ c2_8 = q3) ∧ ∀ a b, N ≤ b → Fresh
 N0 b a [D.ag r3, x2_4, x2_5, x2_6, x2_7] → ∀ c, b ≤ c → Q (D.ag [D.lit (.int .i64 n2_0), D.lit (.string s2_1), D.lit (.string s2_2), D.lit (.int .i64 n2_3),
 x2_4, x2_5, x2_6, x2_7, D.sl a 9 r3 q3]) c)) : yK Q N0 a1 e1 c1 a2 e2 c2 n9 y0 n1_0 s1_1 s1_2 n1_3 n1_4 a1_5 e1_5 c1_5 n1_6 a1_7 e1_7 c1_7 a1_8 e1_8 c1_8 n2_0 s2_1 s2_2 n2_3 x2_4 x2_5 x2_6 x2_7 m2_8 c2_8 r3 q3 N :=
  hE (H := p5) (by kernel_rfl) h
theorem vE (Q : QT [.sl 4, .sl 4]) (N0 : Nat) (a0 : Option Addr) (e0 : List D) (c0 m4 c4 m5 c5 : Nat) (n6 : Int) (r0 : List D) (q0 : Nat) (r1 : List D) (q1 : Nat) (N : Nat) (h :
Br (decide (n6 < (e0.length : Int))) ((0 ≤ n6 ∧ n6 < (e0.length : Int)) ∧ ∃ s, (if 0 = 0 then D.cell (List.getD e0 n6.toNat default) 0 else D.sub (List.getD e0 n6.toNat
 default) 0 0) = D.lit (.string s) ∧ (0 ≤ n6 ∧ n6 < (e0.length : Int)) ∧ (0 ≤ n6 ∧ n6 < (e0.length : Int)) ∧ ∃ b : Bool, (if 0 = 0 then D.cell (List.getD e0 n6.toNat
 default) 3 else D.sub (List.getD e0 n6.toNat default) 3 0) = D.lit (.bool b) ∧ ∀ a, N ≤ a → ACalls prog 109 [.ag 2] [.dg 2 (if 2 = 0 then D.cell (List.getD e0
 n6.toNat default) 1 else D.sub (List.getD e0 n6.toNat default) 1 2)] a (fun x d => a ≤ d → Bel d x → Br b ((m5 = r1.length ∧ c5 = q1) ∧ zB r1 [D.ag
 [D.lit (.string s), (x.cell 0), (x.cell 1), D.lit (.bool b)]] 56 ∧ ∀ (c : Nat), z9 Q N0 a0 e0 c0 m4 c4 (r1 ++ [D.ag [D.lit (.string s), (x.cell
 0), (x.cell 1), D.lit (.bool b)]]).length c (IntKind.i64.wrap (n6 + 1)) r0 q0 (r1 ++ [D.ag [D.lit (.string s), (x.cell 0), (x.cell 1), D.lit (.bool b)]]) c d)
 ((m4 = r0.length ∧ c4 = q0) ∧ zB r0 [D.ag [D.lit (.string s), (x.cell 0), (x.cell 1), D.lit (.bool b)]] 56 ∧ ∀ (a : Nat), z9 Q N0 a0 e0
 c0 (r0 ++ [D.ag [D.lit (.string s), (x.cell 0), (x.cell 1), D.lit (.bool b)]]).length a m5 c5 (IntKind.i64.wrap (n6 + 1)) (r0 ++ [D.ag [D.lit (.string s), (x.cell
 0), (x.cell 1), D.lit (.bool b)]]) a r1 q1 d))) ((m4 = r0.length ∧ c4 = q0) ∧ (m4 = r0.length ∧ c4 = q0) ∧ (m4 = r0.length ∧ c4 = q0) ∧ ∀ a b, N ≤ b → Fresh
 N0 b a [D.ag r0, D.ag r1] → (m5 = r1.length ∧ c5 = q1) ∧ (m5 = r1.length ∧ c5 = q1) ∧ (m5 = r1.length ∧ c5 = q1) ∧ ∀ c d, b ≤ d → Fresh N0 d c [D.ag
 r1, D.sl a 4 r0 q0] → ∀ b, d ≤ b → Q a r0 q0 c r1 q1 b)) : z9 Q N0 a0 e0 c0 m4 c4 m5 c5 n6 r0 q0 r1 q1 N :=
  hE (H := uT) (by kernel_rfl) h
theorem vR (Q : QT [.ag 9, .bool]) (N0 : Nat) (a0 : Option Addr) (e0 : List D) (c0 : Nat) (a2 : Option Addr) (e2 : List D) (c2 m12 c12 : Nat) (n13 n14 : Int) (y0 : D) (n1_0 : Int) (s1_1 s1_2 : ByteArray) (n1_3 n1_4 : Int) (a1_5 : Option Addr) (e1_5 : List D) (c1_5 : Nat) (n1_6 : Int) (a1_7 : Option Addr) (e1_7 : List D) (c1_7 : Nat) (a1_8 : Option Addr) (e1_8 : List D) (c1_8 : Nat) (r2 : List D) (q2 : Nat) (N : Nat) (h :
Br (decide (n14 < (e0.length : Int))) ((0 ≤ n14 ∧ n14 < (e0.length : Int)) ∧ ∃ s, (if 0 = 0 then D.cell (List.getD e0 n14.toNat default) 0 else D.sub (List.getD
 e0 n14.toNat default) 0 0) = D.lit (.string s) ∧ (0 ≤ n14 ∧ n14 < (e0.length : Int)) ∧ ∃ b : Bool, (if 0 = 0 then D.cell (List.getD e0 n14.toNat default) 3 else
 D.sub (List.getD e0 n14.toNat default) 3 0) = D.lit (.bool b) ∧ Br (!b) ((0 ≤ n14 ∧ n14 < (e0.length : Int)) ∧ (0 ≤ n13 ∧ n13 < (e2.length : Int)) ∧ ∃ n : Int, List.getD
 e2 n13.toNat default = D.lit (.int .i64 n) ∧ ∀ a, N ≤ a → ACalls prog 59 [.bool] [.dg 2 (if 2 = 0 then D.cell (List.getD e0 n14.toNat default) 1 else D.sub (List.getD
 e0 n14.toNat default) 1 2), .int .i64 n] a (fun d e => a ≤ e → Br (!d) (∀ a, e ≤ a → Q (D.ag [D.lit (.int .i64 0), D.lit (.string (bytes [])),
 D.lit (.string (bytes [])), D.lit (.int .i64 0), D.lit (.int .i64 0), D.sl Option.none 2 [] 0, D.lit (.int .i64 0), D.sl Option.none 2 [] 0, D.sl Option.none 9 []
 0]) false a) ((0 ≤ n13 ∧ n13 < (e2.length : Int)) ∧ ∃ a : Int, List.getD e2 n13.toNat default = D.lit (.int .i64 a) ∧ (m12 = r2.length ∧ c12 = q2) ∧ zB
 r2 [D.ag [D.lit (.string s), D.lit (.bool b), D.lit (.int .i64 a)]] 32 ∧ ∀ (c : Nat), yE Q N0 a0 e0 c0 a2 e2 c2 (r2 ++ [D.ag [D.lit (.string s),
 D.lit (.bool b), D.lit (.int .i64 a)]]).length c (IntKind.i64.wrap (n13 + 1)) (IntKind.i64.wrap (n14 + 1)) y0 n1_0 s1_1 s1_2 n1_3 n1_4 a1_5 e1_5 c1_5 n1_6 a1_7
 e1_7 c1_7 a1_8 e1_8 c1_8 (r2 ++ [D.ag [D.lit (.string s), D.lit (.bool b), D.lit (.int .i64 a)]]) c e))) ((m12 = r2.length ∧ c12 = q2) ∧ zB r2 [D.ag [D.lit
 (.string s), D.lit (.bool b), D.lit (.int .i64 0)]] 32 ∧ ∀ (a : Nat), yE Q N0 a0 e0 c0 a2 e2 c2 (r2 ++ [D.ag [D.lit (.string s), D.lit (.bool
 b), D.lit (.int .i64 0)]]).length a n13 (IntKind.i64.wrap (n14 + 1)) y0 n1_0 s1_1 s1_2 n1_3 n1_4 a1_5 e1_5 c1_5 n1_6 a1_7 e1_7 c1_7 a1_8 e1_8 c1_8 (r2 ++ [D.ag
 [D.lit (.string s), D.lit (.bool b), D.lit (.int .i64 0)]]) a N)) (∀ b, N ≤ b → ACalls prog 61 [.sl 4] [.sv a0 4 e0 c0] b (fun a c d e => b ≤ e
 → Bel e (D.sl a 4 c d) → (m12 = r2.length ∧ c12 = q2) ∧ ∀ b, ApA b r2 → Off [b] y0 → Off [b] (D.sl a 4 c d) → ∀ f, e ≤ f → rY f [b] →
 ACalls prog 60 [.ag 9] [.dg 9 y0, .sv b 3 r2 c12, .sv a 4 c d] f (fun x a => f ≤ a → Off [b] x ∧ (Bel a x → ∀ b, a ≤ b → Q x true b)))) 
 ) : yE Q N0 a0 e0 c0 a2 e2 c2 m12 c12 n13 n14 y0 n1_0 s1_1 s1_2 n1_3 n1_4 a1_5 e1_5 c1_5 n1_6 a1_7 e1_7 c1_7 a1_8 e1_8 c1_8 r2 q2 N :=
  hE (H := u6) (by kernel_rfl) h
theorem w8 (Q : QT [.sl 4, .sl 4]) (N0 : Nat) (m4 c4 m5 c5 : Nat) (a11 : Option Addr) (e11 : List D) (c11 : Nat) (n12 n13 : Int) (r0 : List D) (q0 : Nat) (r1 : List D) (q1 : Nat) (N : Nat) (h :
Br (decide (n13 < n12)) ((0 ≤ n13 ∧ n13 < (e11.length : Int)) ∧ ∃ s, D.cell (List.getD e11 n13.toNat default) 0 = D.lit (.string s) ∧ ∃ b : Bool, D.cell (List.getD
 e11 n13.toNat default) 3 = D.lit (.bool b) ∧ ∀ a, N ≤ a → ACalls prog 111 [.ag 2] [.dg 2 (D.sub (List.getD e11 n13.toNat default) 1 2)] a (fun x d => a
 ≤ d → Bel d x → ∃ a : Bool, D.cell (List.getD e11 n13.toNat default) 3 = D.lit (.bool a) ∧ Br a ((m5 = r1.length ∧ c5 = q1) ∧ zB r1 [D.ag [D.lit (.string
 s), (x.cell 0), (x.cell 1), D.lit (.bool b)]] 56 ∧ ∀ (c : Nat), z6 Q N0 m4 c4 (r1 ++ [D.ag [D.lit (.string s), (x.cell 0), (x.cell 1), D.lit (.bool
 b)]]).length c a11 e11 c11 n12 (IntKind.i64.wrap (n13 + 1)) r0 q0 (r1 ++ [D.ag [D.lit (.string s), (x.cell 0), (x.cell 1), D.lit (.bool b)]]) c d) ((m4 = r0.length
 ∧ c4 = q0) ∧ zB r0 [D.ag [D.lit (.string s), (x.cell 0), (x.cell 1), D.lit (.bool b)]] 56 ∧ ∀ (a : Nat), z6 Q N0 (r0 ++ [D.ag [D.lit (.string
 s), (x.cell 0), (x.cell 1), D.lit (.bool b)]]).length a m5 c5 a11 e11 c11 n12 (IntKind.i64.wrap (n13 + 1)) (r0 ++ [D.ag [D.lit (.string s), (x.cell 0), (x.cell
 1), D.lit (.bool b)]]) a r1 q1 d))) ((m4 = r0.length ∧ c4 = q0) ∧ (m4 = r0.length ∧ c4 = q0) ∧ (m4 = r0.length ∧ c4 = q0) ∧ ∀ a b, N ≤ b → Fresh N0 b a
 [D.ag r0, D.ag r1] → (m5 = r1.length ∧ c5 = q1) ∧ (m5 = r1.length ∧ c5 = q1) ∧ (m5 = r1.length ∧ c5 = q1) ∧ ∀ c d, b ≤ d → Fresh N0 d c [D.ag r1, D.sl
 a 4 r0 q0] → ∀ b, d ≤ b → Q a r0 q0 c r1 q1 b)) : z6 Q N0 m4 c4 m5 c5 a11 e11 c11 n12 n13 r0 q0 r1 q1 N :=
  hE (H := uB) (by kernel_rfl) h
theorem xo (Q : QT [.ag 9]) (N0 : Nat) (a0 : Option Addr) (e0 : List D) (c0 : Nat) (a1 : Option Addr) (e1 : List D) (c1 m8 c8 : Nat) (a93 : Option Addr) (e93 : List D) (c93 : Nat) (n94 n95 : Int) (y0 : D) (n1_0 : Int) (s1_1 s1_2 : ByteArray) (n1_3 n1_4 : Int) (a1_5 : Option Addr) (e1_5 : List D) (c1_5 : Nat) (n1_6 : Int) (a1_7 : Option Addr) (e1_7 : List D) (c1_7 : Nat) (a1_8 : Option Addr) (e1_8 : List D) (c1_8 : Nat) (r2 : List D) (q2 : Nat) (N : Nat) (h :
Br (decide (n95 < n94)) ((0 ≤ n95 ∧ n95 < (e93.length : Int)) ∧ ∃ n : Int, (y0.cell 0) = D.lit (.int .i64 n) ∧ Br (n == 8) (Br (n95 == 1) (∀ b, N ≤ b → ACalls
 prog 121 [.sl 4] [.sv a1 4 e1 c1, .dg 9 y0] b (fun a c d e => b ≤ e → Bel e (D.sl a 4 c d) → ∀ b, e ≤ b → ACalls prog 106 [.sl 3] [.sv a0 3 e0
 c0, .dg 9 y0, .int .i64 n95] b (fun e f g h => b ≤ h → Bel h (D.sl e 3 f g) → ∀ b, h ≤ b → ACalls prog 63 [.ag 9] [.sv e 3 f g,
 .sv a 4 c d, .dg 9 (List.getD e93 n95.toNat default)] b (fun x a => b ≤ a → Bel a x → (m8 = r2.length ∧ c8 = q2) ∧ zB r2 [x] 136 ∧ ∀ (b : Nat),
 zD Q N0 a0 e0 c0 a1 e1 c1 (r2 ++ [x]).length b a93 e93 c93 n94 (IntKind.i64.wrap (n95 + 1)) y0 n1_0 s1_1 s1_2 n1_3 n1_4 a1_5 e1_5 c1_5 n1_6
 a1_7 e1_7 c1_7 a1_8 e1_8 c1_8 (r2 ++ [x]) b a)))) (∀ a, N ≤ a → ACalls prog 106 [.sl 3] [.sv a0 3 e0 c0, .dg 9 y0, .int .i64 n95] a (fun b c d e
 => a ≤ e → Bel e (D.sl b 3 c d) → ∀ a, e ≤ a → ACalls prog 63 [.ag 9] [.sv b 3 c d, .sv a1 4 e1 c1, .dg 9 (List.getD e93 n95.toNat default)]
 a (fun b c => a ≤ c → Bel c b → (m8 = r2.length ∧ c8 = q2) ∧ zB r2 [b] 136 ∧ ∀ (a : Nat), zD Q N0 a0 e0 c0 a1 e1
 c1 (r2 ++ [b]).length a a93 e93 c93 n94 (IntKind.i64.wrap (n95 + 1)) y0 n1_0 s1_1 s1_2 n1_3 n1_4 a1_5 e1_5 c1_5 n1_6 a1_7 e1_7 c1_7 a1_8 e1_8 c1_8 (r2 ++ [b])
 a c)))) (∀ a, N ≤ a → ACalls prog 106 [.sl 3] [.sv a0 3 e0 c0, .dg 9 y0, .int .i64 n95] a (fun b c d e => a ≤ e → Bel e (D.sl b
 3 c d) → ∀ a, e ≤ a → ACalls prog 63 [.ag 9] [.sv b 3 c d, .sv a1 4 e1 c1, .dg 9 (List.getD e93 n95.toNat default)] a (fun b c => a
 ≤ c → Bel c b → (m8 = r2.length ∧ c8 = q2) ∧ zB r2 [b] 136 ∧ ∀ (a : Nat), zD Q N0 a0 e0 c0 a1 e1 c1 (r2 ++ [b]).length a
 a93 e93 c93 n94 (IntKind.i64.wrap (n95 + 1)) y0 n1_0 s1_1 s1_2 n1_3 n1_4 a1_5 e1_5 c1_5 n1_6 a1_7 e1_7 c1_7 a1_8 e1_8 c1_8 (r2 ++ [b]) a c)))) ((m8 = r2.length
 ∧ c8 = q2) ∧ (m8 = r2.length ∧ c8 = q2) ∧ ∀ a b, N ≤ b → Fresh N0 b a [D.ag r2] → ∀ c, b ≤ c → ACalls prog 107 [.ag 9] [.dg 9 y0, .sv a 9
 r2 q2] c (fun a b => c ≤ b → Bel b a → ∀ c, b ≤ c → Q a c))) : zD Q N0 a0 e0 c0 a1 e1 c1 m8 c8 a93 e93 c93 n94 n95 y0 n1_0 s1_1 s1_2 n1_3 n1_4 a1_5 e1_5 c1_5 n1_6 a1_7 e1_7 c1_7 a1_8 e1_8 c1_8 r2 q2 N :=
  hE (H := wq) (by kernel_rfl) h
theorem vS (Q : QT [.ag 9, .bool]) (N0 : Nat) (a0 : Option Addr) (e0 : List D) (c0 : Nat) (a2 : Option Addr) (e2 : List D) (c2 m12 c12 : Nat) (a36 : Option Addr) (e36 : List D) (c36 : Nat) (n37 n38 : Int) (y0 : D) (n1_0 : Int) (s1_1 s1_2 : ByteArray) (n1_3 n1_4 : Int) (a1_5 : Option Addr) (e1_5 : List D) (c1_5 : Nat) (n1_6 : Int) (a1_7 : Option Addr) (e1_7 : List D) (c1_7 : Nat) (a1_8 : Option Addr) (e1_8 : List D) (c1_8 : Nat) (r2 : List D) (q2 : Nat) (N : Nat) (h :
Br (decide (n38 < n37)) ((0 ≤ n38 ∧ n38 < (e36.length : Int)) ∧ ∃ s, D.cell (List.getD e36 n38.toNat default) 0 = D.lit (.string s) ∧ (m12 = r2.length ∧ c12 = q2)
 ∧ zB r2 [D.ag [D.lit (.string s), D.cell (D.sub (List.getD e36 n38.toNat default) 1 2) 0, D.cell (D.sub (List.getD e36 n38.toNat default) 1 2) 1, D.lit (.int
 .i64 0)]] 56 ∧ ∀ (c : Nat), yu Q N0 a0 e0 c0 a2 e2 c2 (r2 ++ [D.ag [D.lit (.string s), D.cell (D.sub (List.getD e36 n38.toNat default) 1 2) 0, D.cell
 (D.sub (List.getD e36 n38.toNat default) 1 2) 1, D.lit (.int .i64 0)]]).length c a36 e36 c36 n37 (IntKind.i64.wrap (n38 + 1)) y0 n1_0 s1_1 s1_2 n1_3 n1_4 a1_5 e1_5
 c1_5 n1_6 a1_7 e1_7 c1_7 a1_8 e1_8 c1_8 (r2 ++ [D.ag [D.lit (.string s), D.cell (D.sub (List.getD e36 n38.toNat default) 1 2) 0, D.cell (D.sub (List.getD e36 n38.toNat
 default) 1 2) 1, D.lit (.int .i64 0)]]) c N) (∀ b, N ≤ b → ACalls prog 46 [.sl 3] [.sv a0 4 e0 c0, .sv a2 0 e2 c2] b (fun a c d e => b ≤ e → Bel e
 (D.sl a 3 c d) → (m12 = r2.length ∧ c12 = q2) ∧ ∀ b, ApA b r2 → Off [b] (D.sl a 3 c d) → Off [b] y0 → ∀ f, e ≤ f → rY f [b] → ACalls prog
 63 [.ag 9] [.sv a 3 c d, .sv b 4 r2 c12, .dg 9 y0] f (fun x a => f ≤ a → Off [b] x ∧ (Bel a x → ∀ b, a ≤ b → Q x true b))))) : yu Q N0 a0 e0 c0 a2 e2 c2 m12 c12 a36 e36 c36 n37 n38 y0 n1_0 s1_1 s1_2 n1_3 n1_4 a1_5 e1_5 c1_5 n1_6 a1_7 e1_7 c1_7 a1_8 e1_8 c1_8 r2 q2 N :=
  hE (H := uv) (by kernel_rfl) h
theorem zAh (Q : QT [.int .i64]) (N0 : Nat) (a0 : Option Addr) (e0 : List D) (c0 : Nat) (n1 n5 : Int) (N : Nat) (h :
Br (decide (n5 < (e0.length : Int))) ((0 ≤ n5 ∧ n5 < (e0.length : Int)) ∧ False) (∀ a, N ≤ a → Q n1 a)) : ue Q N0 a0 e0 c0 n1 n5 N :=
 hE (H := wO) (by kernel_rfl) h
theorem vA (T : List Nat) (b0 : Nat) (QM : Int → D → Nat → Prop) (N0 : Nat) (m0 c0 : Nat) (n1 n5 : Int) (t0 : Nat) (r0 : List D) (q0 : Nat) (N : Nat) (h :
Br (decide (n5 < (m0 : Int))) ((0 ≤ n5 ∧ n5 < (m0 : Int) ∧ (0 + n5.toNat : Nat) < r0.length) ∧ (0 + n5.toNat : Nat) < r0.length ∧ yb T b0 QM N0
 m0 c0 (IntKind.i64.wrap (n1 + 1)) (IntKind.i64.wrap (n5 + 1)) t0 (List.set r0 (0 + n5.toNat : Nat) (D.lit (.int .i64 n1))) q0 N) (b0 = b0 ∧ ∀ a, N ≤ a → QM n1
 (D.ag r0) a)) : yb T b0 QM N0 m0 c0 n1 n5 t0 r0 q0 N :=
  hE (H := wO) (by kernel_rfl) h

end Go.Proofs.YtfkmegifjiiclaaGreat

/- Printed by gen.py: what the functions come to. -/
set_option linter.unusedVariables false
set_option maxRecDepth 100000
namespace Go.Proofs.YtfkmegifjiiclaaGreat
open Go Go.Proofs Go.Proofs.Tryz
def zIc : Hint := ⟨[], [], [(3, hs 4 [ec 1 [13]])]⟩
def wW : Hint := ⟨[hc 3 [0, 4, 5, 6]], [], [(1, hs 4 [ec 1 [7]]), (5, [en 0, en 1, en 2, en 3, en 4, en 5, en 6, en 7, en 8, en 9, en 10, ec 11 [25, 26], eh 12])]⟩
def tG : Hint := ⟨[], [], [(1, hs 10 [ec 3 [14]]), (5, hs 5 [ec 2 [28]])]⟩
def zHO : Hint := ⟨[], [], [(1, [en 0, en 1, en 3, en 4, ec 2 [8], en 5, eh 6])]⟩
def tN : Hint := ⟨[], [], [(2, hs 10 [ec 3 [19]]), (5, hs 5 [ec 2 [28]])]⟩
def wg : Hint := ⟨[], [], [(7, hs 4 [ec 2 [28]]), (10, [en 0, en 2, en 4, en 10, eh 1, ec 3 [36], eh 5, ec 6 [37], en 7, en 8, en 9, eh 11, en 12]), (12, hs 4 [ec 1 [45]]), (14, hs 10 [ec 3 [51]]), (15, hs 9 [ec 2 [56, 57]]), (19, [en 0, en 1, ec 2 [71], ec 3 [70, 72], en 4]), (24, hs 4 [em 2 none [0, 2, 4, 8, 9, 11, 12, 13, 14, 15]]), (25, hs 4 [em 2 (some 11) [0, 2, 4, 8, 9, 12, 13, 14, 15]]), (26, hs 4 [em 2 none [0, 2, 4, 8, 9, 13, 14, 15]]), (27, hs 13 [ec 5 [92, 93]]), (30, hs 4 [em 2 (some 13) [0, 2, 4, 8, 9, 13, 16]]), (32, hs 4 [ec 2 [105]]), (37, [en 0, en 2, en 4, en 10, eh 1, ec 3 [116], eh 5, ec 6 [117], en 7, en 8, en 9, eh 11, en 12]), (38, hs 9 [ec 2 [123, 124]]), (41, hs 4 [ec 2 [132]])]⟩
def vb (Q : QT [.ag 9]) (N0 : Nat) (a0 : Option Addr) (e0 : List D) (c0 : Nat) (n6 n0_0 : Int) (s0_1 s0_2 : ByteArray) (n0_3 n0_4 : Int) (a0_5 : Option Addr) (e0_5 : List D) (c0_5 : Nat) (n0_6 : Int) (a0_7 : Option Addr) (e0_7 : List D) (c0_7 : Nat) (a0_8 : Option Addr) (e0_8 : List D) (c0_8 : Nat) (n1_0 : Int) (s1_1 s1_2 : ByteArray) (n1_3 : Int) (x1_4 x1_5 x1_6 x1_7 : D) (m1_8 c1_8 : Nat) (r2 : List D) (q2 : Nat) (N : Nat) : Prop := AT prog 64 [.ag 9] Q N0 .ord (zF prog 64 3) ⟨.sv a0 4 e0 c0 :: an 3 (.pb 0 0 0 0 :: .pb 1 0 0 0 :: .int .i64 n6 :: an 22 []), [.var [.int .i64 n0_0, .str s0_1, .str s0_2, .int .i64 n0_3, .int .i64 n0_4, .sv a0_5 2 e0_5 c0_5, .int .i64 n0_6, .sv a0_7 2 e0_7 c0_7, .sv a0_8 9 e0_8 c0_8], .var [.int .i64 n1_0, .str s1_1, .str s1_2, .int .i64 n1_3, .dc x1_4, .dc x1_5, .dc x1_6, .dc x1_7, .sb 2 9 0 m1_8 c1_8], .arr 36 9 r2 q2], N, none⟩
def yH (Q : QT [.ag 9]) (N0 : Nat) (a0 : Option Addr) (e0 : List D) (c0 : Nat) (n6 n0_0 : Int) (s0_1 s0_2 : ByteArray) (n0_3 n0_4 : Int) (a0_5 : Option Addr) (e0_5 : List D) (c0_5 : Nat) (n0_6 : Int) (a0_7 : Option Addr) (e0_7 : List D) (c0_7 : Nat) (a0_8 : Option Addr) (e0_8 : List D) (c0_8 : Nat) (y1 : D) (N : Nat) : Prop := AT prog 64 [.ag 9] Q N0 .ord (zF prog 64 3) ⟨.sv a0 4 e0 c0 :: an 3 (.pb 0 0 0 0 :: .pb 1 0 0 0 :: .int .i64 n6 :: an 22 []), [.var [.int .i64 n0_0, .str s0_1, .str s0_2, .int .i64 n0_3, .int .i64 n0_4, .sv a0_5 2 e0_5 c0_5, .int .i64 n0_6, .sv a0_7 2 e0_7 c0_7, .sv a0_8 9 e0_8 c0_8], .vd y1 9], N, none⟩
theorem zIO (N : Nat) (s0 : ByteArray) (x1 x2 : D) (Q : QT [.ag 9]) (h :
Bel N x1 → Bel N x2 → (1 = ([x2]).length ∧ 1 = 1) ∧ ∀ a, ApA a [x2] → ∀ b, N ≤ b → rY b [a] → ACalls prog 90 [.ag 9] [.int .i64 6, .sv a 9 [x2] 1] b (fun
 x c => b ≤ c → Off [a] x ∧ (Bel c x → ∀ a, c ≤ a → ACalls prog 109 [.ag 2] [.dg 2 x1] a (fun b c => a ≤ c → Bel c b → ∀ a, c ≤ a
 → Q (D.ag [(x.cell 0), D.lit (.string s0), (x.cell 2), (x.cell 3), (b.cell 0), (b.cell 1), (x.cell 6), (x.cell 7), (x.cell 8)]) a)))) : ACalls prog 122 [.ag 9] [PV.str s0, PV.dg 2 x1, PV.dg 9 x2] N Q :=
  eE (H := zIc) (by kernel_rfl) (by kernel_rfl) h
theorem zAg (N : Nat) (a0 : Option Addr) (e0 : List D) (c0 : Nat) (x1 : D) (Q : QT [.ag 9]) (h :
Bel N (D.sl a0 4 e0 c0) → Bel N x1 → ∀ a, N ≤ a → ACalls prog 75 [Sh.pk, .int .i64, .str, .str, .int .i64, Sh.dc, Sh.dc, Sh.dc, Sh.dc, .row (OfNat.ofNat 36)
 9] [.dg 9 x1] a (fun n s b c x d e f g h i => a ≤ i → Bel i (D.ag g) → vb Q N a0 e0 c0 (IntKind.i64.wrap ((e0.length : Int)
 - 1)) 0 (bytes []) (bytes []) 0 0 Option.none [] 0 0 Option.none [] 0 Option.none [] 0 n s b c x d e f g.length h g h i)) : ACalls prog 64 [.ag 9] [PV.sv a0 4 e0 c0, PV.dg 9 x1] N Q :=
  eE (H := wW) (by kernel_rfl) (by kernel_rfl) h
theorem ta (N : Nat) (a0 : Option Addr) (e0 : List D) (c0 : Nat) (x1 : D) (a2 : Option Addr) (e2 : List D) (c2 : Nat) (Q : QT [.ag 9, .bool]) (h :
Bel N (D.sl a0 4 e0 c0) → Bel N x1 → Bel N (D.sl a2 0 e2 c2) → ∀ d, N ≤ d → ACalls prog 24 [.ag 9, .bool] [.sv a0 4 e0 c0, .dg 9 x1, .sv a2 0 e2 c2] d (fun
 x b e => d ≤ e → Bel e x → Br (!b) (∀ a, e ≤ a → Q (D.ag [D.lit (.int .i64 0), D.lit (.string (bytes [])), D.lit (.string (bytes [])), D.lit (.int
 .i64 0), D.lit (.int .i64 0), D.sl Option.none 2 [] 0, D.lit (.int .i64 0), D.sl Option.none 2 [] 0, D.sl Option.none 9 [] 0]) false a) (∀ b, e ≤ b → ACalls
 prog 54 [.sl 4, .sl 4] [.sv a0 4 e0 c0] b (fun a c d e f g h => b ≤ h → Bel h (D.sl a 4 c d) → Bel h (D.sl e 4 f g) → ∀ a, h ≤ a
 → ACalls prog 64 [.ag 9] [.sv e 4 f g, .dg 9 x] a (fun b c => a ≤ c → Bel c b → ∀ a, c ≤ a → Q b true a))))) : ACalls prog 29 [.ag 9, .bool] [PV.sv a0 4 e0 c0, PV.dg 9 x1, PV.sv a2 0 e2 c2] N Q :=
  eE (H := tG) (by kernel_rfl) (by kernel_rfl) h
theorem zHl (N : Nat) (s0 : ByteArray) (x1 x2 : D) (Q : QT [.ag 9]) (h :
Bel N x1 → Bel N x2 → ∀ b, N ≤ b → ACalls prog 111 [.ag 2] [.dg 2 x1] b (fun x c => b ≤ c → Bel c x → (1 = ([x2]).length ∧ 1 = 1) ∧ (1 = ([x2]).length
 ∧ 1 = 1) ∧ (1 = ([x2]).length ∧ 1 = 1) ∧ ∀ a b, c ≤ b → Fresh N b a [D.ag [x2], (x.cell 0), (x.cell 1), D.sl Option.none 2 [] 0] → ∀ c, b ≤ c → Q (D.ag
 [D.lit (.int .i64 6), D.lit (.string s0), D.lit (.string (bytes [])), D.lit (.int .i64 0), (x.cell 0), (x.cell 1), D.lit (.int .i64 0), D.sl Option.none 2 [] 0,
 D.sl a 9 [x2] 1]) c)) : ACalls prog 124 [.ag 9] [PV.str s0, PV.dg 2 x1, PV.dg 9 x2] N Q :=
  eE (H := zHO) (by kernel_rfl) (by kernel_rfl) h
theorem tU (N : Nat) (a0 : Option Addr) (e0 : List D) (c0 : Nat) (x1 : D) (a2 : Option Addr) (e2 : List D) (c2 : Nat) (Q : QT [.ag 9, .bool]) (h :
Bel N (D.sl a0 4 e0 c0) → Bel N x1 → Bel N (D.sl a2 0 e2 c2) → ∀ d, N ≤ d → ACalls prog 56 [.sl 4, .sl 4] [.sv a0 4 e0 c0] d (fun a c e f g h i =>
 d ≤ i → Bel i (D.sl a 4 c e) → Bel i (D.sl f 4 g h) → ∀ a, i ≤ a → ACalls prog 25 [.ag 9, .bool] [.sv a0 4 e0 c0, .dg 9 x1, .sv a2 0 e2 c2]
 a (fun x b c => a ≤ c → Bel c x → Br (!b) (∀ a, c ≤ a → Q (D.ag [D.lit (.int .i64 0), D.lit (.string (bytes [])), D.lit (.string (bytes [])), D.lit
 (.int .i64 0), D.lit (.int .i64 0), D.sl Option.none 2 [] 0, D.lit (.int .i64 0), D.sl Option.none 2 [] 0, D.sl Option.none 9 [] 0]) false a) (∀ a, c ≤ a
 → ACalls prog 67 [.ag 9] [.sv f 4 g h, .dg 9 x] a (fun b c => a ≤ c → Bel c b → ∀ a, c ≤ a → Q b true a))))) : ACalls prog 30 [.ag 9, .bool] [PV.sv a0 4 e0 c0, PV.dg 9 x1, PV.sv a2 0 e2 c2] N Q :=
  eE (H := tN) (by kernel_rfl) (by kernel_rfl) h
theorem wk (N : Nat) (a0 : Option Addr) (e0 : List D) (c0 : Nat) (x1 : D) (a2 : Option Addr) (e2 : List D) (c2 : Nat) (Q : QT [.bool]) (h :
Bel N (D.sl a0 4 e0 c0) → Bel N x1 → Bel N (D.sl a2 0 e2 c2) → Br (decide ((e2.length : Int) > 1048576)) (∀ a, N ≤ a → Q true a) (∀ d, N ≤ d → ACalls prog
 9 [.int .i64] [.sv a0 4 e0 c0, .int .i64 1048576] d (fun n e => d ≤ e → Br (decide (n < 0)) (∀ a, e ≤ a → Q true a) (∀ d, e ≤ d → ACalls prog
 10 [.int .i64] [.dg 9 x1, .int .i64 n] d (fun e f => d ≤ f → Br (decide (e < 0)) (∀ a, f ≤ a → Q true a) (∀ d, f ≤ d → ACalls prog 12 [.sl
 4] [.sv a0 4 e0 c0] d (fun a c e f => d ≤ f → Bel f (D.sl a 4 c e) → ∀ d, f ≤ d → ACalls prog 13 [.ag 9] [.dg 9 x1] d (fun x f => d
 ≤ f → Bel f x → ∀ d, f ≤ d → ACalls prog 21 [.sl 0] [.sv a2 0 e2 c2] d (fun f g h i => d ≤ i → Bel i (D.sl f 0 g h) →
 ∀ d, i ≤ d → ACalls prog 29 [.ag 9, .bool] [.sv a 4 c e, .dg 9 x, .sv f 0 g h] d (fun a b c => d ≤ c → Bel c a → ∀ d, c
 ≤ d → ACalls prog 12 [.sl 4] [.sv a0 4 e0 c0] d (fun c e f g => d ≤ g → Bel g (D.sl c 4 e f) → ∀ d, g ≤ d → ACalls prog
 13 [.ag 9] [.dg 9 x1] d (fun g h => d ≤ h → Bel h g → ∀ d, h ≤ d → ACalls prog 21 [.sl 0] [.sv a2 0 e2 c2] d (fun h i j k
 => d ≤ k → Bel k (D.sl h 0 i j) → ∀ d, k ≤ d → ACalls prog 30 [.ag 9, .bool] [.sv c 4 e f, .dg 9 g, .sv h 0 i j] d (fun
 k l m => d ≤ m → Bel m k → ∀ d, m ≤ d → ACalls prog 15 [.bool] [.dg 9 k, .dg 9 a] d (fun m n => d ≤ n → Br (!m) (∀
 a, n ≤ a → Q false a) (Br (!(l == b)) (∀ a, n ≤ a → Q false a) (∀ d, n ≤ d → ACalls prog 12 [.sl 4] [.sv a0 4 e0 c0] d (fun
 m n o p => d ≤ p → Bel p (D.sl m 4 n o) → ∀ d, p ≤ d → ACalls prog 16 [.bool] [.sv c 4 e f, .sv m 4 n o] d (fun
 m n => d ≤ n → Br (!m) (∀ a, n ≤ a → Q false a) (∀ d, n ≤ d → ACalls prog 13 [.ag 9] [.dg 9 x1] d (fun m n => d ≤ n
 → Bel n m → ∀ d, n ≤ d → ACalls prog 15 [.bool] [.dg 9 g, .dg 9 m] d (fun m n => d ≤ n → Br (!m) (∀ a, n ≤ a → Q false
 a) (∀ d, n ≤ d → ACalls prog 21 [.sl 0] [.sv a2 0 e2 c2] d (fun m n o p => d ≤ p → Bel p (D.sl m 0 n o) → ∀ d, p ≤
 d → ACalls prog 23 [.bool] [.sv h 0 i j, .sv m 0 n o] d (fun m n => d ≤ n → Br (!m) (∀ a, n ≤ a → Q false a) (Tree (D.sl
 c 4 e f) ∧ Low N (D.sl c 4 e f) ∧ Dis (D.sl c 4 e f) [D.sl a0 4 e0 c0, D.sl a2 0 e2 c2, D.sl h 0 i j, x1, a, g, k] ∧ ∀ d, n
 ≤ d → MC prog 17 (D.sl c 4 e f) 1 d (fun _ c e => d ≤ e → Tree g ∧ Low N g ∧ g = g ∧ Dis g [D.sl a0 4 e0 c0, D.sl a2 0 e2 c2,
 D.sl h 0 i j, x1, a, k] ∧ ∀ d, e ≤ d → MC prog 18 g c d (fun c e f => d ≤ f → Tree (D.sl h 0 i j) ∧ Low N (D.sl h
 0 i j) ∧ Dis (D.sl h 0 i j) [D.sl a0 4 e0 c0, D.sl a2 0 e2 c2, x1, a, c, k] ∧ ∀ d, f ≤ d → MC prog 26 (D.sl h 0 i j) e d (fun
 _ e f => d ≤ f → Br (decide (e < 0)) (∀ a, f ≤ a → Q false a) (∀ d, f ≤ d → ACalls prog 15 [.bool] [.dg 9 k, .dg 9 a] d
 (fun e f => d ≤ f → Br (!e) (∀ a, f ≤ a → Q false a) (Br (!(l == b)) (∀ a, f ≤ a → Q false a) (Tree k ∧ Low N k ∧ k
 = k ∧ Dis k [D.sl a0 4 e0 c0, D.sl a2 0 e2 c2, x1, a, c] ∧ ∀ c, f ≤ c → MC prog 18 k 1 c (fun d e f => c ≤ f → ∀ c, f ≤
 c → ACalls prog 19 [.int .i64] [.dg 9 d, .int .i64 1] c (fun f g => c ≤ g → Br (decide (f < 0)) (∀ a, g ≤ a → Q false a) (Br (bne
 f e) (∀ a, g ≤ a → Q false a) (∀ c, g ≤ c → ACalls prog 12 [.sl 4] [.sv a0 4 e0 c0] c (fun f g h i => c ≤ i → Bel i
 (D.sl f 4 g h) → ∀ c, i ≤ c → ACalls prog 13 [.ag 9] [.dg 9 x1] c (fun i j => c ≤ j → Bel j i → ∀ c, j ≤ c → ACalls prog
 21 [.sl 0] [.sv a2 0 e2 c2] c (fun j k l m => c ≤ m → Bel m (D.sl j 0 k l) → ∀ c, m ≤ c → ACalls prog 30 [.ag 9, .bool] [.sv
 f 4 g h, .dg 9 i, .sv j 0 k l] c (fun f g h => c ≤ h → Bel h f → ∀ c, h ≤ c → ACalls prog 15 [.bool] [.dg 9 f,
 .dg 9 a] c (fun a f => c ≤ f → Br (!a) (∀ a, f ≤ a → Q false a) (Br (!(g == b)) (∀ a, f ≤ a → Q false a) (∀ a, f
 ≤ a → ACalls prog 19 [.int .i64] [.dg 9 d, .int .i64 1] a (fun b c => a ≤ c → Br (decide (b < 0)) (∀ a, c ≤ a → Q false a) (Br (bne
 b e) (∀ a, c ≤ a → Q false a) (∀ a, c ≤ a → Q true a))))))))))))))))))))))))))))))))))))))))))))))) : ACalls prog 7 [.bool] [PV.sv a0 4 e0 c0, PV.dg 9 x1, PV.sv a2 0 e2 c2] N Q :=
  eE (H := wg) (by kernel_rfl) (by kernel_rfl) h
theorem qe (Q : QT [.ag 9]) (N0 : Nat) (a0 : Option Addr) (e0 : List D) (c0 : Nat) (n6 n0_0 : Int) (s0_1 s0_2 : ByteArray) (n0_3 n0_4 : Int) (a0_5 : Option Addr) (e0_5 : List D) (c0_5 : Nat) (n0_6 : Int) (a0_7 : Option Addr) (e0_7 : List D) (c0_7 : Nat) (a0_8 : Option Addr) (e0_8 : List D) (c0_8 : Nat) (n1_0 : Int) (s1_1 s1_2 : ByteArray) (n1_3 : Int) (x1_4 x1_5 x1_6 x1_7 : D) (m1_8 c1_8 : Nat) (r2 : List D) (q2 : Nat) (N : Nat) (h :
Br (decide (n6 ≥ 0)) ((0 ≤ n6 ∧ n6 < (e0.length : Int)) ∧ ∃ s, (if 0 = 0 then D.cell (List.getD e0 n6.toNat default) 0 else D.sub (List.getD e0 n6.toNat default)
 0 0) = D.lit (.string s) ∧ (0 ≤ n6 ∧ n6 < (e0.length : Int)) ∧ (m1_8 = r2.length ∧ c1_8 = q2) ∧ (m1_8 = r2.length ∧ c1_8 = q2) ∧ ∀ a b, N ≤ b → Fresh N0 b
 a [D.ag r2] → ∀ c, b ≤ c → ACalls prog 122 [.ag 9] [.str s, .dg 2 (if 2 = 0 then D.cell (List.getD e0 n6.toNat default) 1 else D.sub (List.getD e0 n6.toNat
 default) 1 2), .dg 9 (D.ag [D.lit (.int .i64 n1_0), D.lit (.string s1_1), D.lit (.string s1_2), D.lit (.int .i64 n1_3), x1_4, x1_5, x1_6, x1_7, D.sl a 9 r2 q2])]
 c (fun x a => c ≤ a → Bel a x → yH Q N0 a0 e0 c0 (IntKind.i64.wrap (n6 - 1)) n0_0 s0_1 s0_2 n0_3 n0_4 a0_5 e0_5 c0_5 n0_6 a0_7 e0_7
 c0_7 a0_8 e0_8 c0_8 x a)) ((m1_8 = r2.length ∧ c1_8 = q2) ∧ (m1_8 = r2.length ∧ c1_8 = q2) ∧ (m1_8 = r2.length ∧ c1_8 = q2) ∧ ∀ a b, N ≤ b → Fresh N0 b
 a [D.ag r2, x1_4, x1_5, x1_6, x1_7] → ∀ c, b ≤ c → Q (D.ag [D.lit (.int .i64 n1_0), D.lit (.string s1_1), D.lit (.string s1_2), D.lit (.int .i64 n1_3), x1_4,
 x1_5, x1_6, x1_7, D.sl a 9 r2 q2]) c)) : vb Q N0 a0 e0 c0 n6 n0_0 s0_1 s0_2 n0_3 n0_4 a0_5 e0_5 c0_5 n0_6 a0_7 e0_7 c0_7 a0_8 e0_8 c0_8 n1_0 s1_1 s1_2 n1_3 x1_4 x1_5 x1_6 x1_7 m1_8 c1_8 r2 q2 N :=
  hE (H := wW) (by kernel_rfl) h
theorem wT (Q : QT [.ag 9]) (N0 : Nat) (a0 : Option Addr) (e0 : List D) (c0 : Nat) (n6 n0_0 : Int) (s0_1 s0_2 : ByteArray) (n0_3 n0_4 : Int) (a0_5 : Option Addr) (e0_5 : List D) (c0_5 : Nat) (n0_6 : Int) (a0_7 : Option Addr) (e0_7 : List D) (c0_7 : Nat) (a0_8 : Option Addr) (e0_8 : List D) (c0_8 : Nat) (y1 : D) (N : Nat) (h :
Br (decide (n6 ≥ 0)) ((0 ≤ n6 ∧ n6 < (e0.length : Int)) ∧ ∃ s, (if 0 = 0 then D.cell (List.getD e0 n6.toNat default) 0 else D.sub (List.getD e0 n6.toNat default)
 0 0) = D.lit (.string s) ∧ (0 ≤ n6 ∧ n6 < (e0.length : Int)) ∧ ∀ a, N ≤ a → ACalls prog 122 [.ag 9] [.str s, .dg 2 (if 2 = 0 then D.cell (List.getD e0 n6.toNat
 default) 1 else D.sub (List.getD e0 n6.toNat default) 1 2), .dg 9 y1] a (fun x b => a ≤ b → Bel b x → yH Q N0 a0 e0 c0 (IntKind.i64.wrap
 (n6 - 1)) n0_0 s0_1 s0_2 n0_3 n0_4 a0_5 e0_5 c0_5 n0_6 a0_7 e0_7 c0_7 a0_8 e0_8 c0_8 x b)) (∀ a, N ≤ a → Q y1 a)) : yH Q N0 a0 e0 c0 n6 n0_0 s0_1 s0_2 n0_3 n0_4 a0_5 e0_5 c0_5 n0_6 a0_7 e0_7 c0_7 a0_8 e0_8 c0_8 y1 N :=
  hE (H := wW) (by kernel_rfl) h

end Go.Proofs.YtfkmegifjiiclaaGreat
