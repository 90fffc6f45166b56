/- Printed by gen.py: what the functions come to. -/
import Derived.Test.YtnpjpplbkoammaaGreatDoorJh
set_option linter.unusedVariables false
set_option maxRecDepth 100000
namespace Go.Proofs.YtnpjpplbkoammaaGreatDoor
open Go Go.Proofs Go.Proofs.Tryz
def zBs : Hint := ⟨[], [], []⟩
def zAn : Hint := ⟨[], [], []⟩
def rV : Hint := ⟨[hc 5 [1, 2, 4, 5, 15, 16, 17]], [], [(11, [en 0, en 1, en 2, en 3, en 4, en 5, en 6, en 7, eh 8, en 9, en 10, en 11, en 12, en 13])]⟩
def zGW : Hint := ⟨[], [], []⟩
def zDW : Hint := ⟨[], [], []⟩
def zDQ : Hint := ⟨[], [], []⟩
def zFa : Hint := ⟨[], [], []⟩
def zJK : Hint := ⟨[], [], []⟩
def zG1 : Hint := ⟨[], [], [(6, hs 8 [ec 1 [25]]), (11, hs 10 [ec 7 [42]]), (15, [en 0, en 1, en 2, en 3, en 4, en 5, en 6, en 7, en 8, en 9, ec 10 [53, 59], eh 11, en 12]), (17, [en 0, en 1, en 2, en 3, en 4, en 5, en 6, en 8, en 9, en 10, en 11, en 12, en 13, ec 7 [66, 69], ec 14 [70, 76], eh 15, en 16]), (19, [en 0, en 1, en 2, en 3, en 4, en 5, en 6, ec 7 [83, 86], eh 8, en 9]), (21, hs 8 [ec 1 [91]]), (25, hs 8 [ec 1 [100]])]⟩
def zCB : Hint := ⟨[], [], []⟩
def qD : Hint := ⟨[hc 11 [1, 2, 3, 6, 54, 55, 56]], [], [(3, hs 3 [ec 1 [31]]), (4, hs 9 [ec 2 [36]]), (5, hs 8 [ec 3 [40]]), (6, hs 8 [ec 1 [46]]), (13, [en 0, en 1, en 2, en 4, en 10, ec 3 [63], ec 5 [62], en 6, en 7, en 8, en 9, eh 11, en 12, en 13]), (15, hs 4 [ec 1 [72]])]⟩
def zBk : Hint := ⟨[hc 7 [1, 2, 32, 33]], [], [(1, hs 2 [ec 1 [11]]), (4, hs 13 [ec 4 [21]]), (5, hs 7 [ec 3 [26]]), (6, hs 3 [ec 1 [31]]), (9, hs 6 [ec 5 [40]]), (10, hs 12 [ec 5 [47]]), (11, hs 4 [ec 1 [51]]), (15, hs 6 [ec 1 [61]])]⟩
def zBM : Hint := ⟨[], [], [(1, hs 8 [ec 5 [8]]), (3, hs 7 [ec 4 [16]])]⟩
def zFD : Hint := ⟨[], [], [(1, hs 13 [ec 10 [13]]), (3, hs 6 [ec 1 [18], ec 2 [19], ec 3 [20]])]⟩
def zCD : Hint := ⟨[], [], [(6, hs 3 [ec 1 [10]]), (8, hs 10 [ec 1 [14], ec 7 [20]])]⟩
def qk : Hint := ⟨[], [], [(1, hs 9 [ec 2 [5], ec 6 [9]])]⟩
def s9 : Hint := ⟨[], [], []⟩
def rT : Hint := ⟨[hc 4 [1, 2, 3, 15, 16, 17]], [], [(1, hs 5 [ec 3 [10]]), (6, [en 0, en 1, en 2, en 4, ec 3 [22], ec 5 [21], en 6])]⟩
def yI (Q : QT [.ag 9, .bool]) (N0 : Nat) (n4 : Int) (m5 c5 : Nat) (a15 : Option Addr) (e15 : List D) (c15 : Nat) (n16 n17 : Int) (y0 : D) (n1_0 : Int) (s1_1 s1_2 : ByteArray) (n1_3 n1_4 : Int) (a1_5 : Option Addr) (e1_5 : List D) (c1_5 : Nat) (n1_6 : Int) (a1_7 : Option Addr) (e1_7 : List D) (c1_7 : Nat) (a1_8 : Option Addr) (e1_8 : List D) (c1_8 : Nat) (r2 : List D) (q2 : Nat) (N : Nat) : Prop := AT prog 111 [.ag 9, .bool] Q N0 .ord (zF prog 111 5) ⟨an 1 (.pb 0 0 0 0 :: .pb 1 0 0 0 :: an 1 (.int .i64 n4 :: .sb 2 0 0 m5 c5 :: an 9 (.sv a15 9 e15 c15 :: .int .i64 n16 :: .int .i64 n17 :: an 33 []))), [.vd y0 9, .var [.int .i64 n1_0, .str s1_1, .str s1_2, .int .i64 n1_3, .int .i64 n1_4, .sv a1_5 2 e1_5 c1_5, .int .i64 n1_6, .sv a1_7 2 e1_7 c1_7, .sv a1_8 9 e1_8 c1_8], .arr 3 0 r2 q2], N, none⟩
def w4 (Q : QT [.ag 9, .int .i64]) (N0 : Nat) (n32 n33 : Int) (y0 : D) (n1_0 : Int) (s1_1 s1_2 : ByteArray) (n1_3 n1_4 : Int) (a1_5 : Option Addr) (e1_5 : List D) (c1_5 : Nat) (n1_6 : Int) (a1_7 : Option Addr) (e1_7 : List D) (c1_7 : Nat) (a1_8 : Option Addr) (e1_8 : List D) (c1_8 : Nat) (N : Nat) : Prop := AT prog 41 [.ag 9, .int .i64] Q N0 .ord (zF prog 41 7) ⟨an 1 (.pb 0 0 0 0 :: .pb 1 0 0 0 :: an 29 (.int .i64 n32 :: .int .i64 n33 :: an 31 [])), [.vd y0 9, .var [.int .i64 n1_0, .str s1_1, .str s1_2, .int .i64 n1_3, .int .i64 n1_4, .sv a1_5 2 e1_5 c1_5, .int .i64 n1_6, .sv a1_7 2 e1_7 c1_7, .sv a1_8 9 e1_8 c1_8]], N, none⟩
def yH (Q : QT [.ag 9, .int .i64, .bool]) (N0 : Nat) (n1 : Int) (a54 : Option Addr) (e54 : List D) (c54 : Nat) (n55 n56 : Int) (y0 : D) (n1_0 : Int) (s1_1 s1_2 : ByteArray) (n1_3 n1_4 : Int) (a1_5 : Option Addr) (e1_5 : List D) (c1_5 : Nat) (n1_6 : Int) (a1_7 : Option Addr) (e1_7 : List D) (c1_7 : Nat) (a1_8 : Option Addr) (e1_8 : List D) (c1_8 : Nat) (N : Nat) : Prop := AT prog 77 [.ag 9, .int .i64, .bool] Q N0 .ord (zF prog 77 11) ⟨an 1 (.int .i64 n1 :: .fn 41 [] :: .pb 0 0 0 0 :: an 2 (.pb 1 0 0 0 :: an 47 (.sv a54 9 e54 c54 :: .int .i64 n55 :: .int .i64 n56 :: an 26 []))), [.vd y0 9, .var [.int .i64 n1_0, .str s1_1, .str s1_2, .int .i64 n1_3, .int .i64 n1_4, .sv a1_5 2 e1_5 c1_5, .int .i64 n1_6, .sv a1_7 2 e1_7 c1_7, .sv a1_8 9 e1_8 c1_8]], N, none⟩
def xO (Q : QT [.bool]) (N0 : Nat) (n1 : Int) (a15 : Option Addr) (e15 : List D) (c15 : Nat) (n16 n17 : Int) (y0 : D) (N : Nat) : Prop := AT prog 73 [.bool] Q N0 .ord (zF prog 73 4) ⟨an 1 (.int .i64 n1 :: .fn 144 [] :: .pb 0 0 0 0 :: an 11 (.sv a15 9 e15 c15 :: .int .i64 n16 :: .int .i64 n17 :: an 11 [])), [.vd y0 9], N, none⟩
theorem zBJ (N : Nat) (s0 : ByteArray) (Q : QT [.bool]) (h :
Br (ByteArray.toList s0 == ByteArray.toList (bytes [38])) (∀ a, N ≤ a → Q true a) (Br (ByteArray.toList s0 == ByteArray.toList (bytes [124])) (∀ a, N ≤ a
 → Q true a) (∀ a, N ≤ a → Q (ByteArray.toList s0 == ByteArray.toList (bytes [33])) a))) : ACalls prog 145 [.bool] [PV.str s0] N Q :=
  eE (H := zBs) (by kernel_rfl) (by kernel_rfl) h
theorem zAY (N : Nat) (s0 : ByteArray) (Q : QT [.bool]) (h :
∀ a, N ≤ a → ACalls prog 145 [.bool] [.str s0] a (fun b c => a ≤ c → Br b (∀ a, c ≤ a → Q true a) (Br (ByteArray.toList s0 == ByteArray.toList
 (bytes [61])) (∀ a, c ≤ a → Q true a) (∀ a, c ≤ a → Q (ByteArray.toList s0 == ByteArray.toList (bytes [60])) a)))) : ACalls prog 148 [.bool] [PV.str s0] N Q :=
  eE (H := zAn) (by kernel_rfl) (by kernel_rfl) h
theorem zCm (N : Nat) (x0 : D) (Q : QT [.ag 9, .bool]) (h :
Bel N x0 → ∃ s, (x0.cell 1) = D.lit (.string s) ∧ ∀ d, N ≤ d → ACalls prog 145 [.bool] [.str s] d (fun b e => d ≤ e → Br b (∃ a b, ∃ c : Nat, (x0.cell
 8) = D.sl a 9 b c ∧ yI Q N 3 2 2 a b c (b.length : Int) 0 x0 0 (bytes []) (bytes []) 0 0 Option.none [] 0 0 Option.none [] 0 Option.none [] 0 [D.lit
 (.int .i64 0), D.lit (.int .i64 0)] 2 e) (∃ a b, ∃ c : Nat, (x0.cell 8) = D.sl a 9 b c ∧ yI Q N 2 2 2 a b c (b.length : Int)
 0 x0 0 (bytes []) (bytes []) 0 0 Option.none [] 0 0 Option.none [] 0 Option.none [] 0 [D.lit (.int .i64 0), D.lit (.int .i64 0)] 2 e))) : ACalls prog 111 [.ag 9, .bool] [PV.dg 9 x0] N Q :=
  eE (H := rV) (by kernel_rfl) (by kernel_rfl) h
theorem zFt (N : Nat) (n0 : Int) (Q : QT [.ag 9]) (h :
∀ a, N ≤ a → Q (D.ag [D.lit (.int .i64 2), D.lit (.string (bytes [])), D.lit (.string (bytes [])), D.lit (.int .i64 n0), D.lit (.int .i64 0), D.sl Option.none
 2 [] 0, D.lit (.int .i64 0), D.sl Option.none 2 [] 0, D.sl Option.none 9 [] 0]) a) : ACalls prog 181 [.ag 9] [PV.int .i64 n0] N Q :=
  eE (H := zGW) (by kernel_rfl) (by kernel_rfl) h
theorem zCz (N : Nat) (n0 : Int) (b1 : Bool) (Q : QT [.ag 9]) (h :
Br b1 (∀ a, N ≤ a → Q (D.ag [D.lit (.int .i64 3), D.lit (.string (bytes [])), D.lit (.string (bytes [])), D.lit (.int .i64 n0), D.lit (.int .i64 0), D.sl Option.none
 2 [] 0, D.lit (.int .i64 0), D.sl Option.none 2 [] 0, D.sl Option.none 9 [] 0]) a) (∀ a, N ≤ a → ACalls prog 181 [.ag 9] [.int .i64 n0] a (fun x b => a
 ≤ b → Bel b x → ∀ a, b ≤ a → Q x a))) : ACalls prog 147 [.ag 9] [PV.int .i64 n0, PV.bool b1] N Q :=
  eE (H := zDW) (by kernel_rfl) (by kernel_rfl) h
theorem zDA (N : Nat) (s0 : ByteArray) (n1 n2 : Int) (Q : QT [.int .i64, .bool]) (h :
∀ a, N ≤ a → ACalls prog 177 [.bool] [.int .i64 n1] a (fun b c => a ≤ c → Br (!b) (∀ a, c ≤ a → Q 0 false a) (∀ a, c ≤ a → ACalls prog
 177 [.bool] [.int .i64 n2] a (fun b c => a ≤ c → Br (!b) (∀ a, c ≤ a → Q 0 false a) (Br (ByteArray.toList s0 == ByteArray.toList (bytes [43]))
 (∀ a, c ≤ a → ACalls prog 179 [.int .i64] [.int .i64 (IntKind.i64.wrap (n1 + n2))] a (fun n b => a ≤ b → ∀ a, b ≤ a → Q n true a)) (Br (ByteArray.toList
 s0 == ByteArray.toList (bytes [45])) (∀ a, c ≤ a → ACalls prog 179 [.int .i64] [.int .i64 (IntKind.i64.wrap (n1 - n2))] a (fun b c => a ≤ c
 → ∀ a, c ≤ a → Q b true a)) (Br (ByteArray.toList s0 == ByteArray.toList (bytes [42])) (∀ a, c ≤ a → ACalls prog 179 [.int .i64] [.int .i64
 (IntKind.i64.wrap (n1 * n2))] a (fun b c => a ≤ c → ∀ a, c ≤ a → Q b true a)) (Br (ByteArray.toList s0 == ByteArray.toList (bytes [61]))
 (∀ a, c ≤ a → ACalls prog 180 [.int .i64] [.bool (n1 == n2)] a (fun b c => a ≤ c → ∀ a, c ≤ a → Q b true a)) (Br (ByteArray.toList
 s0 == ByteArray.toList (bytes [60])) (∀ a, c ≤ a → ACalls prog 180 [.int .i64] [.bool (decide (n1 < n2))] a (fun b c => a ≤ c → ∀ a, c
 ≤ a → Q b true a)) (Br (ByteArray.toList s0 == ByteArray.toList (bytes [38])) (Br (n1 == 1) (∀ a, c ≤ a → ACalls prog 180 [.int .i64] [.bool (n2
 == 1)] a (fun b c => a ≤ c → ∀ a, c ≤ a → Q b true a)) (∀ a, c ≤ a → ACalls prog 180 [.int .i64] [.bool false] a (fun b
 c => a ≤ c → ∀ a, c ≤ a → Q b true a))) (Br (ByteArray.toList s0 == ByteArray.toList (bytes [124])) (Br (n1 == 1) (∀ a, c ≤ a → ACalls
 prog 180 [.int .i64] [.bool true] a (fun b c => a ≤ c → ∀ a, c ≤ a → Q b true a)) (∀ a, c ≤ a → ACalls prog 180 [.int .i64] [.bool
 (n2 == 1)] a (fun b c => a ≤ c → ∀ a, c ≤ a → Q b true a))) (Br (ByteArray.toList s0 == ByteArray.toList (bytes [33])) (∀ a, c ≤
 a → ACalls prog 180 [.int .i64] [.bool (n1 == 0)] a (fun b c => a ≤ c → ∀ a, c ≤ a → Q b true a)) (∀ a, c ≤ a → Q 0 false
 a))))))))))))) : ACalls prog 146 [.int .i64, .bool] [PV.str s0, PV.int .i64 n1, PV.int .i64 n2] N Q :=
  eE (H := zDQ) (by kernel_rfl) (by kernel_rfl) h
theorem zEq (N : Nat) (n0 : Int) (Q : QT [.int .i64]) (h :
(10007 : Int) ≠ (0 : Int) ∧ (10007 : Int) ≠ (0 : Int) ∧ ∀ a, N ≤ a → Q (Int.tmod (IntKind.i64.wrap (Int.tmod n0 10007 + 10007)) 10007) a) : ACalls prog 179 [.int .i64] [PV.int .i64 n0] N Q :=
 eE (H := zFa) (by kernel_rfl) (by kernel_rfl) h
theorem zJo (N : Nat) (b0 : Bool) (Q : QT [.int .i64]) (h :
Br b0 (∀ a, N ≤ a → Q 1 a) (∀ a, N ≤ a → Q 0 a)) : ACalls prog 180 [.int .i64] [PV.bool b0] N Q :=
 eE (H := zJK) (by kernel_rfl) (by kernel_rfl) h
theorem zHA (N : Nat) (x0 : D) (Q : QT [.ag 9, .int .i64]) (h :
Bel N x0 → ∃ a d, ∃ c : Nat, (x0.cell 8) = D.sl a 9 d c ∧ Br (decide ((d.length : Int) > 0)) (∃ a c, ∃ d : Nat, (x0.cell 8) = D.sl a 9 c d ∧ ((0
 : Int) ≤ (0 : Int) ∧ 0 < (c.length : Int)) ∧ ∃ n : Int, (x0.cell 0) = D.lit (.int .i64 n) ∧ Br (n == 4) (∀ a, N ≤ a → ACalls prog 111 [.ag 9, .bool] [.dg
 9 x0] a (fun x b c => a ≤ c → Bel c x → Br b (∀ a, c ≤ a → Q x 1 a) (∀ a, c ≤ a → Q x0 0 a))) (Br (n == 5) (∃ a : Int, D.cell (List.getD
 c 0 default) 0 = D.lit (.int .i64 a) ∧ Br (a == 3) (∃ a b, ∃ d : Nat, (x0.cell 8) = D.sl a 9 b d ∧ ∃ a : Int, D.cell (List.getD c 0 default)
 3 = D.lit (.int .i64 a) ∧ (0 ≤ IntKind.i64.wrap (2 - a) ∧ IntKind.i64.wrap (2 - a) < (b.length : Int)) ∧ ∀ c, N ≤ c → ACalls prog 40 [Sh.pk, .int .i64,
 .str, .str, .int .i64, Sh.dc, Sh.dc, Sh.dc, Sh.dc, .row (OfNat.ofNat 34) 9] [.dg 9 (List.getD b (IntKind.i64.wrap (2 - a)).toNat default)] c (fun a s b
 d e f g h i j k => c ≤ k → Bel k (D.ag i) → (i.length = i.length ∧ j = j) ∧ (i.length = i.length ∧ j = j) ∧ ∀ c l,
 k ≤ l → Fresh N l c [D.ag i, e, f, g, h] → ∀ k, l ≤ k → Q (D.ag [D.lit (.int .i64 a), D.lit (.string s), D.lit (.string b), D.lit (.int
 .i64 d), e, f, g, h, D.sl c 9 i j]) 2 k)) (∀ a, N ≤ a → Q x0 0 a)) (Br (n == 7) (∃ a : Int, D.cell (List.getD c 0 default) 0 = D.lit
 (.int .i64 a) ∧ Br (a == 6) (∃ a b, ∃ d : Nat, D.cell (List.getD c 0 default) 8 = D.sl a 9 b d ∧ ((0 : Int) ≤ (0 : Int) ∧ 0 < (b.length :
 Int)) ∧ ∃ a, D.cell (List.getD c 0 default) 1 = D.lit (.string a) ∧ ∃ c d, ∃ e : Nat, (x0.cell 8) = D.sl c 9 d e ∧ ((0 : Int) ≤ (1 : Int) ∧
 1 < (d.length : Int)) ∧ ∀ c, N ≤ c → ACalls prog 112 [.ag 9] [.dg 9 (List.getD b 0 default), .str a, .dg 9 (List.getD d 1 default)] c (fun a
 b => c ≤ b → Bel b a → ∀ c, b ≤ c → Q a 3 c)) (Br (a == 9) (∃ a b, ∃ d : Nat, D.cell (List.getD c 0 default) 8 = D.sl a
 9 b d ∧ ((0 : Int) ≤ (0 : Int) ∧ 0 < (b.length : Int)) ∧ ∃ a, D.cell (List.getD c 0 default) 1 = D.lit (.string a) ∧ ∃ d, D.cell (List.getD c
 0 default) 2 = D.lit (.string d) ∧ ∃ e f, ∃ g : Nat, (x0.cell 8) = D.sl e 9 f g ∧ ((0 : Int) ≤ (1 : Int) ∧ 1 < (f.length : Int)) ∧ ∀ e, N ≤
 e → ACalls prog 112 [.ag 9] [.dg 9 (List.getD b 0 default), .str a, .dg 9 (List.getD c 0 default)] e (fun a b => e ≤ b → Bel b a →
 ∀ c, b ≤ c → ACalls prog 112 [.ag 9] [.dg 9 a, .str d, .dg 9 (List.getD f 1 default)] c (fun a b => c ≤ b → Bel b a → ∀ c,
 b ≤ c → Q a 4 c))) (∀ a, N ≤ a → Q x0 0 a))) (Br (n == 8) (∃ a b, ∃ d : Nat, (x0.cell 8) = D.sl a 9 b d ∧ ((0 : Int) ≤ (1 : Int)
 ∧ 1 < (b.length : Int)) ∧ ∃ a, (x0.cell 1) = D.lit (.string a) ∧ ∀ d, N ≤ d → ACalls prog 112 [.ag 9] [.dg 9 (List.getD b 1 default), .str a, .dg
 9 (List.getD c 0 default)] d (fun a b => d ≤ b → Bel b a → ∀ c, b ≤ c → Q a 5 c)) (Br (n == 12) (∀ a, N ≤ a → ACalls prog
 109 [.ag 9, .bool] [.dg 9 (List.getD c 0 default)] a (fun b c d => a ≤ d → Bel d b → Br c (∀ a, d ≤ a → Q b 7 a) (∀ a,
 d ≤ a → Q x0 0 a))) (Br (n == 13) (∀ a, N ≤ a → ACalls prog 113 [.ag 9, .bool] [.dg 9 (List.getD c 0 default)] a (fun b c d => a
 ≤ d → Bel d b → Br c (∀ a, d ≤ a → Q b 8 a) (∀ a, d ≤ a → Q x0 0 a))) (∀ a, N ≤ a → Q x0 0 a))))))) (∃ a : Int,
 (x0.cell 0) = D.lit (.int .i64 a) ∧ Br (a == 4) (∀ a, N ≤ a → ACalls prog 111 [.ag 9, .bool] [.dg 9 x0] a (fun b c d => a ≤ d → Bel d
 b → Br c (∀ a, d ≤ a → Q b 1 a) (∀ a, d ≤ a → Q x0 0 a))) (Br (a == 5) (∀ a, N ≤ a → Q x0 0 a) (Br (a == 7) (∀ a,
 N ≤ a → Q x0 0 a) (Br (a == 8) (∃ a b, ∃ c : Nat, (x0.cell 8) = D.sl a 9 b c ∧ ((0 : Int) ≤ (1 : Int) ∧ 1 < (b.length : Int)) ∧ ∃ a, (x0.cell
 1) = D.lit (.string a) ∧ ∀ c, N ≤ c → ACalls prog 112 [.ag 9] [.dg 9 (List.getD b 1 default), .str a, .dg 9 (D.ag [D.lit (.int .i64 0), D.lit (.string
 (bytes [])), D.lit (.string (bytes [])), D.lit (.int .i64 0), D.lit (.int .i64 0), D.sl Option.none 2 [] 0, D.lit (.int .i64 0), D.sl Option.none 2 [] 0, D.sl Option.none
 9 [] 0])] c (fun a b => c ≤ b → Bel b a → ∀ c, b ≤ c → Q a 5 c)) (Br (a == 12) (∀ a, N ≤ a → ACalls prog 109 [.ag 9,
 .bool] [.dg 9 (D.ag [D.lit (.int .i64 0), D.lit (.string (bytes [])), D.lit (.string (bytes [])), D.lit (.int .i64 0), D.lit (.int .i64 0), D.sl Option.none 2 []
 0, D.lit (.int .i64 0), D.sl Option.none 2 [] 0, D.sl Option.none 9 [] 0])] a (fun b c d => a ≤ d → Bel d b → Br c (∀ a, d ≤ a
 → Q b 7 a) (∀ a, d ≤ a → Q x0 0 a))) (Br (a == 13) (∀ a, N ≤ a → ACalls prog 113 [.ag 9, .bool] [.dg 9 (D.ag [D.lit (.int .i64 0), D.lit
 (.string (bytes [])), D.lit (.string (bytes [])), D.lit (.int .i64 0), D.lit (.int .i64 0), D.sl Option.none 2 [] 0, D.lit (.int .i64 0), D.sl Option.none 2 [] 0,
 D.sl Option.none 9 [] 0])] a (fun b c d => a ≤ d → Bel d b → Br c (∀ a, d ≤ a → Q b 8 a) (∀ a, d ≤ a → Q x0 0 a)))
 (∀ a, N ≤ a → Q x0 0 a)))))))) : ACalls prog 80 [.ag 9, .int .i64] [PV.dg 9 x0] N Q :=
  eE (H := zG1) (by kernel_rfl) (by kernel_rfl) h
theorem zB4 (N : Nat) (x0 : D) (Q : QT [.int .i64]) (h :
Bel N x0 → ∃ n : Int, (x0.cell 0) = D.lit (.int .i64 n) ∧ Br (n == 4) (∃ a b, ∃ c : Nat, (x0.cell 8) = D.sl a 9 b c ∧ ∀ a, N ≤ a → Q (b.length : Int) a)
 (Br (n == 7) (∃ a b, ∃ c : Nat, (x0.cell 8) = D.sl a 9 b c ∧ ∀ a, N ≤ a → Q (b.length : Int) a) (Br (n == 5) (∀ a, N ≤ a → Q 1 a) (Br
 (n == 8) (∀ a, N ≤ a → Q 1 a) (Br (n == 12) (∀ a, N ≤ a → Q 1 a) (Br (n == 13) (∀ a, N ≤ a → Q 1 a) (∀ a, N ≤ a → Q 0 a))))))) : ACalls prog 79 [.int .i64] [PV.dg 9 x0] N Q :=
  eE (H := zCB) (by kernel_rfl) (by kernel_rfl) h
theorem zHL (N : Nat) (x0 : D) (Q : QT [.ag 9, .int .i64]) (h :
Bel N x0 → ∀ d, N ≤ d → ACalls prog 76 [.bool] [.dg 9 x0] d (fun b e => d ≤ e → Br b (∀ a, e ≤ a → Q x0 0 a) (∃ n : Int, (x0.cell 0) = D.lit
 (.int .i64 n) ∧ Br (n == 10) (∃ a b, ∃ c : Nat, (x0.cell 8) = D.sl a 9 b c ∧ ((0 : Int) ≤ (0 : Int) ∧ 0 < (b.length : Int)) ∧ ∀ a, e ≤ a → ACalls prog 77
 [.ag 9, .int .i64, .bool] [.dg 9 (List.getD b 0 default), .int .i64 1, .fn 41 []] a (fun x b _ c => a ≤ c → Bel c x → (1 = ([x]).length ∧ 1 = 1) ∧
 ∀ a, ApA a [x] → Off [a] x0 → ∀ d, c ≤ d → u7 d [a] → ACalls prog 78 [Sh.pk, .int .i64, .str, .str, .int .i64, Sh.dc, Sh.dc, Sh.dc, Sh.dc, Sh.bk
 1] [.dg 9 x0, .sv a 9 [x] 1] d (fun c s e f g h i j k l => d ≤ l → k = D.sl a 9 [x] 1 ∧ Off [a] g ∧ Off [a] h ∧ Off [a] i
 ∧ Off [a] j ∧ (1 = ([x]).length ∧ 1 = 1) ∧ (1 = ([x]).length ∧ 1 = 1) ∧ (1 = ([x]).length ∧ 1 = 1) ∧ ∀ a d, l ≤ d → Fresh N d a [D.ag [x], g, h,
 i, j] → ∀ k, d ≤ k → Q (D.ag [D.lit (.int .i64 c), D.lit (.string s), D.lit (.string e), D.lit (.int .i64 f), g, h, i, j, D.sl a 9 [x]
 1]) b k))) (∀ a, e ≤ a → ACalls prog 79 [.int .i64] [.dg 9 x0] a (fun b c => a ≤ c → w4 Q N b 0 x0 0 (bytes []) (bytes [])
 0 0 Option.none [] 0 0 Option.none [] 0 Option.none [] 0 c))))) : ACalls prog 41 [.ag 9, .int .i64] [PV.dg 9 x0] N Q :=
  eE (H := zBk) (by kernel_rfl) (by kernel_rfl) h
theorem zCd (N : Nat) (x0 : D) (Q : QT [.ag 9, .bool]) (h :
Bel N x0 → ∃ n : Int, (x0.cell 0) = D.lit (.int .i64 n) ∧ Br (bne n 10) (∀ a, N ≤ a → Q (D.ag [D.lit (.int .i64 0), D.lit (.string (bytes [])), D.lit (.string
 (bytes [])), D.lit (.int .i64 0), D.lit (.int .i64 0), D.sl Option.none 2 [] 0, D.lit (.int .i64 0), D.sl Option.none 2 [] 0, D.sl Option.none 9 [] 0]) false a)
 (∀ d, N ≤ d → ACalls prog 76 [.bool] [.dg 9 x0] d (fun b e => d ≤ e → Br (!b) (∀ a, e ≤ a → Q (D.ag [D.lit (.int .i64 0), D.lit (.string (bytes
 [])), D.lit (.string (bytes [])), D.lit (.int .i64 0), D.lit (.int .i64 0), D.sl Option.none 2 [] 0, D.lit (.int .i64 0), D.sl Option.none 2 [] 0, D.sl Option.none
 9 [] 0]) false a) (∃ a b, ∃ c : Nat, (x0.cell 8) = D.sl a 9 b c ∧ ((0 : Int) ≤ (0 : Int) ∧ 0 < (b.length : Int)) ∧ ∀ a, e ≤ a → ACalls prog 40 [Sh.pk,
 .int .i64, .str, .str, .int .i64, Sh.dc, Sh.dc, Sh.dc, Sh.dc, .row (OfNat.ofNat 34) 9] [.dg 9 (List.getD b 0 default)] a (fun b s c d x e f g h
 i j => a ≤ j → Bel j (D.ag h) → (h.length = h.length ∧ i = i) ∧ (h.length = h.length ∧ i = i) ∧ ∀ a k, j ≤ k → Fresh N k
 a [D.ag h, x, e, f, g] → ∀ j, k ≤ j → Q (D.ag [D.lit (.int .i64 b), D.lit (.string s), D.lit (.string c), D.lit (.int .i64 d), x, e, f,
 g, D.sl a 9 h i]) true j))))) : ACalls prog 109 [.ag 9, .bool] [PV.dg 9 x0] N Q :=
  eE (H := zBM) (by kernel_rfl) (by kernel_rfl) h
theorem zE8 (N : Nat) (x0 : D) (Q : QT [.ag 9, .bool]) (h :
Bel N x0 → ∃ n : Int, (x0.cell 0) = D.lit (.int .i64 n) ∧ Br (bne n 2) (∃ d : Int, (x0.cell 0) = D.lit (.int .i64 d) ∧ Br (bne d 3) (∀ a, N ≤ a → Q (D.ag
 [D.lit (.int .i64 0), D.lit (.string (bytes [])), D.lit (.string (bytes [])), D.lit (.int .i64 0), D.lit (.int .i64 0), D.sl Option.none 2 [] 0, D.lit (.int .i64
 0), D.sl Option.none 2 [] 0, D.sl Option.none 9 [] 0]) false a) (∀ d, N ≤ d → ACalls prog 72 [.bool] [.dg 9 x0] d (fun b e => d ≤ e → Br (!b) (∀ a,
 e ≤ a → Q (D.ag [D.lit (.int .i64 0), D.lit (.string (bytes [])), D.lit (.string (bytes [])), D.lit (.int .i64 0), D.lit (.int .i64 0), D.sl Option.none 2 []
 0, D.lit (.int .i64 0), D.sl Option.none 2 [] 0, D.sl Option.none 9 [] 0]) false a) (∀ b, e ≤ b → ACalls prog 40 [Sh.pk, .int .i64, .str, .str, .int .i64,
 Sh.dc, Sh.dc, Sh.dc, Sh.dc, .row (OfNat.ofNat 34) 9] [.dg 9 x0] b (fun c s d e x f g h i j k => b ≤ k → Bel k (D.ag i) → (i.length = i.length
 ∧ j = j) ∧ ∀ a b, k ≤ b → Fresh N b a [D.ag i] → (1 = ([D.ag [D.lit (.int .i64 c), D.lit (.string s), D.lit (.string d), D.lit (.int .i64 e), x, f,
 g, h, D.sl a 9 i j]]).length ∧ 1 = 1) ∧ ∀ k l, b ≤ l → Fresh N l k [D.ag [D.ag [D.lit (.int .i64 c), D.lit (.string s), D.lit (.string d), D.lit
 (.int .i64 e), x, f, g, h, D.sl a 9 i j]]] → ∀ b, l ≤ b → ACalls prog 152 [.ag 9] [.int .i64 10, .sv k 9 [D.ag [D.lit (.int .i64 c), D.lit (.string
 s), D.lit (.string d), D.lit (.int .i64 e), x, f, g, h, D.sl a 9 i j]] 1] b (fun a c => b ≤ c → Bel c a → ∀ b, c ≤ b → Q a
 true b)))))) (∀ a, N ≤ a → ACalls prog 72 [.bool] [.dg 9 x0] a (fun b c => a ≤ c → Br (!b) (∀ a, c ≤ a → Q (D.ag [D.lit (.int .i64
 0), D.lit (.string (bytes [])), D.lit (.string (bytes [])), D.lit (.int .i64 0), D.lit (.int .i64 0), D.sl Option.none 2 [] 0, D.lit (.int .i64 0), D.sl Option.none
 2 [] 0, D.sl Option.none 9 [] 0]) false a) (∀ a, c ≤ a → ACalls prog 40 [Sh.pk, .int .i64, .str, .str, .int .i64, Sh.dc, Sh.dc, Sh.dc, Sh.dc, .row (OfNat.ofNat
 34) 9] [.dg 9 x0] a (fun b c d e f g h i j k l => a ≤ l → Bel l (D.ag j) → (j.length = j.length ∧ k = k) ∧ ∀ a
 m, l ≤ m → Fresh N m a [D.ag j] → (1 = ([D.ag [D.lit (.int .i64 b), D.lit (.string c), D.lit (.string d), D.lit (.int .i64 e), f, g,
 h, i, D.sl a 9 j k]]).length ∧ 1 = 1) ∧ ∀ l n, m ≤ n → Fresh N n l [D.ag [D.ag [D.lit (.int .i64 b), D.lit (.string c), D.lit (.string
 d), D.lit (.int .i64 e), f, g, h, i, D.sl a 9 j k]]] → ∀ m, n ≤ m → ACalls prog 152 [.ag 9] [.int .i64 10, .sv l 9 [D.ag [D.lit (.int
 .i64 b), D.lit (.string c), D.lit (.string d), D.lit (.int .i64 e), f, g, h, i, D.sl a 9 j k]] 1] m (fun a b => m ≤ b → Bel
 b a → ∀ c, b ≤ c → Q a true c)))))) : ACalls prog 113 [.ag 9, .bool] [PV.dg 9 x0] N Q :=
  eE (H := zFD) (by kernel_rfl) (by kernel_rfl) h
theorem zCO (N : Nat) (x0 : D) (Q : QT [.bool]) (h :
Bel N x0 → ∃ n : Int, (x0.cell 0) = D.lit (.int .i64 n) ∧ Br (n == 2) (∀ a, N ≤ a → ACalls prog 72 [.bool] [.dg 9 x0] a (fun b c => a ≤ c → ∀ a, c
 ≤ a → Q b a)) (Br (n == 3) (∀ a, N ≤ a → ACalls prog 72 [.bool] [.dg 9 x0] a (fun b c => a ≤ c → ∀ a, c ≤ a → Q b a)) (Br (n == 6) (∀
 a, N ≤ a → ACalls prog 72 [.bool] [.dg 9 x0] a (fun b c => a ≤ c → ∀ a, c ≤ a → Q b a)) (Br (n == 9) (∀ a, N ≤ a → ACalls prog 72 [.bool]
 [.dg 9 x0] a (fun b c => a ≤ c → ∀ a, c ≤ a → Q b a)) (Br (n == 10) (∀ b, N ≤ b → ACalls prog 72 [.bool] [.dg 9 x0] b (fun d
 e => b ≤ e → Br d (∃ a b, ∃ c : Nat, (x0.cell 8) = D.sl a 9 b c ∧ ((0 : Int) ≤ (0 : Int) ∧ 0 < (b.length : Int)) ∧ ∀ a, e ≤ a → ACalls prog
 108 [.bool] [.dg 9 (List.getD b 0 default), .int .i64 1] a (fun b c => a ≤ c → ∀ a, c ≤ a → Q b a)) (∀ a, e ≤ a → Q false a)))
 (∀ a, N ≤ a → Q false a)))))) : ACalls prog 76 [.bool] [PV.dg 9 x0] N Q :=
  eE (H := zCD) (by kernel_rfl) (by kernel_rfl) h
theorem qz (N : Nat) (x0 : D) (n1 : Int) (Q : QT [.bool]) (h :
Bel N x0 → ∀ a, N ≤ a → ACalls prog 39 [.bool] [.dg 9 x0, .int .i64 n1] a (fun b c => a ≤ c → Br b (∀ a, c ≤ a → ACalls prog 73 [.bool] [.dg 9
 x0, .int .i64 n1, .fn 144 []] a (fun b c => a ≤ c → ∀ a, c ≤ a → Q b a)) (∀ a, c ≤ a → Q false a))) : ACalls prog 108 [.bool] [PV.dg 9 x0, PV.int .i64 n1] N Q :=
  eE (H := qk) (by kernel_rfl) (by kernel_rfl) h
theorem rF (N : Nat) (x0 : D) (n1 : Int) (Q : QT [.bool]) (h :
Bel N x0 → ∃ n : Int, (x0.cell 0) = D.lit (.int .i64 n) ∧ Br (bne n 11) (∀ a, N ≤ a → Q true a) (∀ a, N ≤ a → Q (bne n1 1) a)) : ACalls prog 144 [.bool] [PV.dg 9 x0, PV.int .i64 n1] N Q :=
 eE (H := s9) (by kernel_rfl) (by kernel_rfl) h
theorem u9 (Q : QT [.ag 9, .bool]) (N0 : Nat) (n4 : Int) (m5 c5 : Nat) (a15 : Option Addr) (e15 : List D) (c15 : Nat) (n16 n17 : Int) (y0 : D) (n1_0 : Int) (s1_1 s1_2 : ByteArray) (n1_3 n1_4 : Int) (a1_5 : Option Addr) (e1_5 : List D) (c1_5 : Nat) (n1_6 : Int) (a1_7 : Option Addr) (e1_7 : List D) (c1_7 : Nat) (a1_8 : Option Addr) (e1_8 : List D) (c1_8 : Nat) (r2 : List D) (q2 : Nat) (N : Nat) (h :
Br (decide (n17 < n16)) ((0 ≤ n17 ∧ n17 < (e15.length : Int)) ∧ ∃ n : Int, D.cell (List.getD e15 n17.toNat default) 0 = D.lit (.int .i64 n) ∧ Br (bne n n4) (∀ a,
 N ≤ a → Q (D.ag [D.lit (.int .i64 0), D.lit (.string (bytes [])), D.lit (.string (bytes [])), D.lit (.int .i64 0), D.lit (.int .i64 0), D.sl Option.none 2 [] 0,
 D.lit (.int .i64 0), D.sl Option.none 2 [] 0, D.sl Option.none 9 [] 0]) false a) (∃ a : Int, D.cell (List.getD e15 n17.toNat default) 3 = D.lit (.int .i64 a)
 ∧ (0 ≤ n17 ∧ n17 < (m5 : Int) ∧ (0 + n17.toNat : Nat) < r2.length) ∧ (0 + n17.toNat : Nat) < r2.length ∧ yI Q N0 n4 m5 c5 a15 e15 c15 n16 (IntKind.i64.wrap
 (n17 + 1)) y0 n1_0 s1_1 s1_2 n1_3 n1_4 a1_5 e1_5 c1_5 n1_6 a1_7 e1_7 c1_7 a1_8 e1_8 c1_8 (List.set r2 (0 + n17.toNat : Nat) (D.lit (.int .i64 a))) q2 N)) (∃ s,
 (y0.cell 1) = D.lit (.string s) ∧ ((0 : Int) ≤ (0 : Int) ∧ 0 < (m5 : Int) ∧ 0 < r2.length) ∧ 0 < r2.length ∧ ∃ a : Int, List.getD r2 0 default = D.lit (.int .i64
 a) ∧ ((0 : Int) ≤ (1 : Int) ∧ 1 < (m5 : Int) ∧ 1 < r2.length) ∧ 1 < r2.length ∧ ∃ c : Int, List.getD r2 1 default = D.lit (.int .i64 c) ∧ ∀ d, N ≤ d →
 ACalls prog 146 [.int .i64, .bool] [.str s, .int .i64 a, .int .i64 c] d (fun a b c => d ≤ c → ∃ d, (y0.cell 1) = D.lit (.string d) ∧ ∀ e, c
 ≤ e → ACalls prog 148 [.bool] [.str d] e (fun c d => e ≤ d → ∀ e, d ≤ e → ACalls prog 147 [.ag 9] [.int .i64 a, .bool c] e (fun x a =>
 e ≤ a → Bel a x → ∀ c, a ≤ c → Q x b c))))) : yI Q N0 n4 m5 c5 a15 e15 c15 n16 n17 y0 n1_0 s1_1 s1_2 n1_3 n1_4 a1_5 e1_5 c1_5 n1_6 a1_7 e1_7 c1_7 a1_8 e1_8 c1_8 r2 q2 N :=
  hE (H := rV) (by kernel_rfl) h
theorem zAb (N : Nat) (x0 : D) (n1 : Int) (Q : QT [.ag 9, .int .i64, .bool]) (h :
Bel N x0 → ∃ n : Int, (x0.cell 0) = D.lit (.int .i64 n) ∧ Br (n == 11) (Br (n1 == 1) (∃ a d, ∃ c : Nat, (x0.cell 8) = D.sl a 9 d c ∧ ((0 : Int) ≤ (0 : Int) ∧ 0
 < (d.length : Int)) ∧ ∀ a, N ≤ a → ACalls prog 76 [.bool] [.dg 9 (List.getD d 0 default)] a (fun b c => a ≤ c → Br (!b) (∀ a, c ≤ a → ACalls
 prog 41 [.ag 9, .int .i64] [.dg 9 (List.getD d 0 default)] a (fun x b c => a ≤ c → Bel c x → (1 = ([x]).length ∧ 1 = 1) ∧ ∀ a, ApA a [x] → Off [a]
 x0 → ∀ d, c ≤ d → u7 d [a] → ACalls prog 78 [Sh.pk, .int .i64, .str, .str, .int .i64, Sh.dc, Sh.dc, Sh.dc, Sh.dc, Sh.bk 1] [.dg 9 x0, .sv a 9 [x] 1]
 d (fun c s e f g h i j k l => d ≤ l → k = D.sl a 9 [x] 1 ∧ Off [a] g ∧ Off [a] h ∧ Off [a] i ∧ Off [a] j ∧ (1 = ([x]).length
 ∧ 1 = 1) ∧ (1 = ([x]).length ∧ 1 = 1) ∧ (1 = ([x]).length ∧ 1 = 1) ∧ ∀ a d, l ≤ d → Fresh N d a [D.ag [x], g, h, i, j] → ∀ k, d ≤ k → Q
 (D.ag [D.lit (.int .i64 c), D.lit (.string s), D.lit (.string e), D.lit (.int .i64 f), g, h, i, j, D.sl a 9 [x] 1]) b true k))) (∀ a, c ≤
 a → ACalls prog 109 [.ag 9, .bool] [.dg 9 (List.getD d 0 default)] a (fun b c d => a ≤ d → Bel d b → Br c (∀ a, d ≤ a → Q b 6
 true a) (∀ a, d ≤ a → Q x0 0 true a))))) (∃ a b, ∃ c : Nat, (x0.cell 8) = D.sl a 9 b c ∧ yH Q N n1 a b c (b.length
 : Int) 0 x0 0 (bytes []) (bytes []) 0 0 Option.none [] 0 0 Option.none [] 0 Option.none [] 0 N)) (∃ a b, ∃ c : Nat, (x0.cell 8) = D.sl a 9 b c ∧ yH
 Q N n1 a b c (b.length : Int) 0 x0 0 (bytes []) (bytes []) 0 0 Option.none [] 0 0 Option.none [] 0 Option.none [] 0 N)) : ACalls prog 77 [.ag 9, .int .i64, .bool] [.dg 9 x0, .int .i64 n1, .fn 41 []] N Q :=
  eE (H := qD) (by kernel_rfl) (by kernel_rfl) h
theorem qG (Q : QT [.ag 9, .int .i64]) (N0 : Nat) (n32 n33 : Int) (y0 : D) (n1_0 : Int) (s1_1 s1_2 : ByteArray) (n1_3 n1_4 : Int) (a1_5 : Option Addr) (e1_5 : List D) (c1_5 : Nat) (n1_6 : Int) (a1_7 : Option Addr) (e1_7 : List D) (c1_7 : Nat) (a1_8 : Option Addr) (e1_8 : List D) (c1_8 : Nat) (N : Nat) (h :
Br (decide (n33 < n32)) (∃ a d, ∃ c : Nat, (y0.cell 8) = D.sl a 9 d c ∧ (0 ≤ n33 ∧ n33 < (d.length : Int)) ∧ ∀ a, N ≤ a → ACalls prog 76 [.bool] [.dg 9 (List.getD
 d n33.toNat default)] a (fun b c => a ≤ c → Br b (w4 Q N0 n32 (IntKind.i64.wrap (n33 + 1)) y0 n1_0 s1_1 s1_2 n1_3 n1_4 a1_5 e1_5 c1_5 n1_6 a1_7
 e1_7 c1_7 a1_8 e1_8 c1_8 c) (∃ a b, ∃ d : Nat, (y0.cell 8) = D.sl a 9 b d ∧ (0 ≤ n33 ∧ n33 < (b.length : Int)) ∧ ∀ a, c ≤ a → ACalls prog
 41 [.ag 9, .int .i64] [.dg 9 (List.getD b n33.toNat default)] a (fun x n b => a ≤ b → Bel b x → ∀ a, b ≤ a → ACalls prog 40 [Sh.pk, .int .i64,
 .str, .str, .int .i64, Sh.dc, Sh.dc, Sh.dc, Sh.dc, .row (OfNat.ofNat 34) 9] [.dg 9 y0] a (fun b s c d e f g h i j k => a ≤ k → Bel k
 (D.ag i) → (0 ≤ n33 ∧ n33 < (i.length : Int) ∧ (0 + n33.toNat : Nat) < i.length) ∧ (0 + n33.toNat : Nat) < i.length ∧ (i.length = (List.set i (0
 + n33.toNat : Nat) x).length ∧ j = j) ∧ (i.length = (List.set i (0 + n33.toNat : Nat) x).length ∧ j = j) ∧ (i.length = (List.set i (0 + n33.toNat
 : Nat) x).length ∧ j = j) ∧ (i.length = (List.set i (0 + n33.toNat : Nat) x).length ∧ j = j) ∧ (i.length = (List.set i (0 + n33.toNat : Nat)
 x).length ∧ j = j) ∧ ∀ a l, k ≤ l → Fresh N0 l a [D.ag (List.set i (0 + n33.toNat : Nat) x), e, f, g, h] → ∀ k, l ≤ k → Q (D.ag
 [D.lit (.int .i64 b), D.lit (.string s), D.lit (.string c), D.lit (.int .i64 d), e, f, g, h, D.sl a 9 (List.set i (0 + n33.toNat : Nat) x) j])
 n k))))) (∀ a, N ≤ a → ACalls prog 80 [.ag 9, .int .i64] [.dg 9 y0] a (fun b c d => a ≤ d → Bel d b → ∀ a, d ≤ a → Q b c a)) 
 ) : w4 Q N0 n32 n33 y0 n1_0 s1_1 s1_2 n1_3 n1_4 a1_5 e1_5 c1_5 n1_6 a1_7 e1_7 c1_7 a1_8 e1_8 c1_8 N :=
  hE (H := zBk) (by kernel_rfl) h
theorem zAB (N : Nat) (x0 : D) (n1 : Int) (Q : QT [.bool]) (h :
Bel N x0 → ∀ d, N ≤ d → ACalls prog 144 [.bool] [.dg 9 x0, .int .i64 n1] d (fun b e => d ≤ e → Br (!b) (∀ a, e ≤ a → Q false a) (∃ a b, ∃ c
 : Nat, (x0.cell 8) = D.sl a 9 b c ∧ xO Q N n1 a b c (b.length : Int) 0 x0 e))) : ACalls prog 73 [.bool] [.dg 9 x0, .int .i64 n1, .fn 144 []] N Q :=
  eE (H := rT) (by kernel_rfl) (by kernel_rfl) h
theorem u6 (Q : QT [.ag 9, .int .i64, .bool]) (N0 : Nat) (n1 : Int) (a54 : Option Addr) (e54 : List D) (c54 : Nat) (n55 n56 : Int) (y0 : D) (n1_0 : Int) (s1_1 s1_2 : ByteArray) (n1_3 n1_4 : Int) (a1_5 : Option Addr) (e1_5 : List D) (c1_5 : Nat) (n1_6 : Int) (a1_7 : Option Addr) (e1_7 : List D) (c1_7 : Nat) (a1_8 : Option Addr) (e1_8 : List D) (c1_8 : Nat) (N : Nat) (h :
Br (decide (n56 < n55)) ((0 ≤ n56 ∧ n56 < (e54.length : Int)) ∧ ∀ d, N ≤ d → ACalls prog 107 [.int .i64] [.dg 9 y0, .int .i64 n1] d (fun n e => d ≤ e
 → ∀ d, e ≤ d → ACalls prog 77 [.ag 9, .int .i64, .bool] [.dg 9 (List.getD e54 n56.toNat default), .int .i64 n, .fn 41 []] d (fun x b e f => d ≤ f
 → Bel f x → Br e (∀ d, f ≤ d → ACalls prog 40 [Sh.pk, .int .i64, .str, .str, .int .i64, Sh.dc, Sh.dc, Sh.dc, Sh.dc, .row (OfNat.ofNat 34) 9] [.dg 9 y0] d
 (fun c s e f g h i j k l m => d ≤ m → Bel m (D.ag k) → (0 ≤ n56 ∧ n56 < (k.length : Int) ∧ (0 + n56.toNat : Nat) < k.length) ∧ (0 + n56.toNat
 : Nat) < k.length ∧ (k.length = (List.set k (0 + n56.toNat : Nat) x).length ∧ l = l) ∧ (k.length = (List.set k (0 + n56.toNat : Nat) x).length ∧ l = l) ∧ (k.length
 = (List.set k (0 + n56.toNat : Nat) x).length ∧ l = l) ∧ (k.length = (List.set k (0 + n56.toNat : Nat) x).length ∧ l = l) ∧ (k.length = (List.set k (0 + n56.toNat
 : Nat) x).length ∧ l = l) ∧ ∀ a d, m ≤ d → Fresh N0 d a [D.ag (List.set k (0 + n56.toNat : Nat) x), g, h, i, j] → ∀ m, d ≤ m → Q (D.ag [D.lit
 (.int .i64 c), D.lit (.string s), D.lit (.string e), D.lit (.int .i64 f), g, h, i, j, D.sl a 9 (List.set k (0 + n56.toNat : Nat) x) l]) b true m))
 (yH Q N0 n1 a54 e54 c54 n55 (IntKind.i64.wrap (n56 + 1)) y0 n1_0 s1_1 s1_2 n1_3 n1_4 a1_5 e1_5 c1_5 n1_6 a1_7 e1_7 c1_7 a1_8 e1_8 c1_8 f)))) (∀ a,
 N ≤ a → Q y0 0 false a)) : yH Q N0 n1 a54 e54 c54 n55 n56 y0 n1_0 s1_1 s1_2 n1_3 n1_4 a1_5 e1_5 c1_5 n1_6 a1_7 e1_7 c1_7 a1_8 e1_8 c1_8 N :=
  hE (H := qD) (by kernel_rfl) h
theorem tC (Q : QT [.bool]) (N0 : Nat) (n1 : Int) (a15 : Option Addr) (e15 : List D) (c15 : Nat) (n16 n17 : Int) (y0 : D) (N : Nat) (h :
Br (decide (n17 < n16)) ((0 ≤ n17 ∧ n17 < (e15.length : Int)) ∧ ∀ a, N ≤ a → ACalls prog 107 [.int .i64] [.dg 9 y0, .int .i64 n1] a (fun n c => a ≤ c
 → ∀ a, c ≤ a → ACalls prog 73 [.bool] [.dg 9 (List.getD e15 n17.toNat default), .int .i64 n, .fn 144 []] a (fun b c => a ≤ c → Br (!b) (∀ a, c
 ≤ a → Q false a) (xO Q N0 n1 a15 e15 c15 n16 (IntKind.i64.wrap (n17 + 1)) y0 c)))) (∀ a, N ≤ a → Q true a)) : xO Q N0 n1 a15 e15 c15 n16 n17 y0 N :=
  hE (H := rT) (by kernel_rfl) h
end Go.Proofs.YtnpjpplbkoammaaGreatDoor
set_option maxRecDepth 100000
namespace Go.Proofs.YtnpjpplbkoammaaGreatDoor
open Go Go.Proofs Go.Proofs.Tryz
end Go.Proofs.YtnpjpplbkoammaaGreatDoor
set_option maxRecDepth 100000
namespace Go.Proofs.YtnpjpplbkoammaaGreatDoor
open Go Go.Proofs Go.Proofs.Tryz
def qR : Hint := ⟨[hc 3 [1, 3, 4]], [], [(5, hs 9 [ec 6 [17]])]⟩
def uG : Hint := ⟨[hc 6 [1, 4, 5, 6]], [], [(1, hs 8 [ec 1 [9]]), (3, hs 4 [ec 1 [18]]), (6, hs 3 [ec 1 [22]]), (8, hs 2 [ec 1 [27]]), (12, hs 8 [ec 1 [39]])]⟩
def xo (Q : QT [.int .i64]) (N0 : Nat) (n3 n4 : Int) (y0 : D) (N : Nat) : Prop := AT prog 48 [.int .i64] Q N0 .ord (zF prog 48 3) ⟨an 1 (.pb 0 0 0 0 :: an 1 (.int .i64 n3 :: .int .i64 n4 :: an 16 [])), [.vd y0 9], N, none⟩
def u4 (Q : QT [.ag 11]) (N0 : Nat) (n1 n6 n0_0 n0_1 : Int) (s0_2 s0_3 : ByteArray) (n0_4 n0_5 : Int) (a0_6 : Option Addr) (e0_6 : List D) (c0_6 : Nat) (n0_7 : Int) (a0_8 : Option Addr) (e0_8 : List D) (c0_8 : Nat) (a0_9 : Option Addr) (e0_9 : List D) (c0_9 : Nat) (n0_10 n1_0 : Int) (s1_1 s1_2 : ByteArray) (n1_3 : Int) (x1_4 x1_5 x1_6 x1_7 : D) (m1_8 c1_8 : Nat) (r2 : List D) (q2 : Nat) (N : Nat) : Prop := AT prog 23 [.ag 11] Q N0 .ord (zF prog 23 6) ⟨an 1 (.int .i64 n1 :: an 2 (.pb 0 0 0 0 :: .pb 1 0 0 0 :: .int .i64 n6 :: an 42 [])), [.var [.int .i64 n0_0, .int .i64 n0_1, .str s0_2, .str s0_3, .int .i64 n0_4, .int .i64 n0_5, .sv a0_6 2 e0_6 c0_6, .int .i64 n0_7, .sv a0_8 2 e0_8 c0_8, .sv a0_9 9 e0_9 c0_9, .int .i64 n0_10], .var [.int .i64 n1_0, .str s1_1, .str s1_2, .int .i64 n1_3, .dc x1_4, .dc x1_5, .dc x1_6, .dc x1_7, .sb 2 9 0 m1_8 c1_8], .arr 34 9 r2 q2], N, none⟩
def yg (Q : QT [.ag 11]) (N0 : Nat) (n1 n6 n0_0 n0_1 : Int) (s0_2 s0_3 : ByteArray) (n0_4 n0_5 : Int) (a0_6 : Option Addr) (e0_6 : List D) (c0_6 : Nat) (n0_7 : Int) (a0_8 : Option Addr) (e0_8 : List D) (c0_8 : Nat) (a0_9 : Option Addr) (e0_9 : List D) (c0_9 : Nat) (n0_10 : Int) (y1 : D) (N : Nat) : Prop := AT prog 23 [.ag 11] Q N0 .ord (zF prog 23 6) ⟨an 1 (.int .i64 n1 :: an 2 (.pb 0 0 0 0 :: .pb 1 0 0 0 :: .int .i64 n6 :: an 42 [])), [.var [.int .i64 n0_0, .int .i64 n0_1, .str s0_2, .str s0_3, .int .i64 n0_4, .int .i64 n0_5, .sv a0_6 2 e0_6 c0_6, .int .i64 n0_7, .sv a0_8 2 e0_8 c0_8, .sv a0_9 9 e0_9 c0_9, .int .i64 n0_10], .vd y1 9], N, none⟩
theorem zFA (N : Nat) (x0 : D) (Q : QT [.int .i64]) (h :
Bel N x0 → xo Q N 1 0 x0 N) : ACalls prog 48 [.int .i64] [PV.dg 9 x0] N Q :=
 eE (H := qR) (by kernel_rfl) (by kernel_rfl) h
theorem zDF (N : Nat) (x0 : D) (n1 : Int) (Q : QT [.ag 11]) (h :
Bel N x0 → ∀ a, N ≤ a → ACalls prog 34 [.bool] [.dg 9 x0, .int .i64 0] a (fun b d => a ≤ d → Br (!b) (∀ a, d ≤ a → Q (D.ag [D.lit (.int .i64 0),
 D.lit (.int .i64 0), D.lit (.string (bytes [])), D.lit (.string (bytes [])), D.lit (.int .i64 0), D.lit (.int .i64 0), D.sl Option.none 2 [] 0, D.lit (.int .i64
 0), D.sl Option.none 2 [] 0, D.sl Option.none 9 [] 0, D.lit (.int .i64 0)]) a) (∀ a, d ≤ a → ACalls prog 52 [.bool] [.int .i64 n1, .int .i64 0, .int .i64
 200] a (fun b d => a ≤ d → Br (!b) (∀ a, d ≤ a → Q (D.ag [D.lit (.int .i64 0), D.lit (.int .i64 0), D.lit (.string (bytes [])), D.lit (.string
 (bytes [])), D.lit (.int .i64 0), D.lit (.int .i64 0), D.sl Option.none 2 [] 0, D.lit (.int .i64 0), D.sl Option.none 2 [] 0, D.sl Option.none 9 [] 0, D.lit (.int
 .i64 0)]) a) (∀ a, d ≤ a → ACalls prog 35 [Sh.pk, .int .i64, .str, .str, .int .i64, Sh.dc, Sh.dc, Sh.dc, Sh.dc, .row (OfNat.ofNat 34) 9] [.dg 9 x0] a (fun
 n s b c x d e f g h i => a ≤ i → Bel i (D.ag g) → u4 Q N n1 0 0 0 (bytes []) (bytes []) 0 0 Option.none [] 0 0 Option.none [] 0
 Option.none [] 0 0 n s b c x d e f g.length h g h i)))))) : ACalls prog 23 [.ag 11] [PV.dg 9 x0, PV.int .i64 n1] N Q :=
  eE (H := uG) (by kernel_rfl) (by kernel_rfl) h
theorem tX (Q : QT [.int .i64]) (N0 : Nat) (n3 n4 : Int) (y0 : D) (N : Nat) (h :
∃ a b, ∃ c : Nat, (y0.cell 8) = D.sl a 9 b c ∧ Br (decide (n4 < (b.length : Int))) (∃ a b, ∃ c : Nat, (y0.cell 8) = D.sl a 9 b c ∧ (0 ≤ n4 ∧ n4
 < (b.length : Int)) ∧ ∀ a, N ≤ a → ACalls prog 48 [.int .i64] [.dg 9 (List.getD b n4.toNat default)] a (fun n b => a ≤ b → xo Q N0
 (IntKind.i64.wrap (n3 + n)) (IntKind.i64.wrap (n4 + 1)) y0 b)) (∀ a, N ≤ a → Q n3 a)) : xo Q N0 n3 n4 y0 N :=
  hE (H := qR) (by kernel_rfl) h
theorem zAe (Q : QT [.ag 11]) (N0 : Nat) (n1 n6 n0_0 n0_1 : Int) (s0_2 s0_3 : ByteArray) (n0_4 n0_5 : Int) (a0_6 : Option Addr) (e0_6 : List D) (c0_6 : Nat) (n0_7 : Int) (a0_8 : Option Addr) (e0_8 : List D) (c0_8 : Nat) (a0_9 : Option Addr) (e0_9 : List D) (c0_9 : Nat) (n0_10 n1_0 : Int) (s1_1 s1_2 : ByteArray) (n1_3 : Int) (x1_4 x1_5 x1_6 x1_7 : D) (m1_8 c1_8 : Nat) (r2 : List D) (q2 : Nat) (N : Nat) (h :
(m1_8 = r2.length ∧ c1_8 = q2) ∧ (m1_8 = r2.length ∧ c1_8 = q2) ∧ ∀ a c, N ≤ c → Fresh N0 c a [D.ag r2] → ∀ d, c ≤ d → ACalls prog 48 [.int .i64] [.dg
 9 (D.ag [D.lit (.int .i64 n1_0), D.lit (.string s1_1), D.lit (.string s1_2), D.lit (.int .i64 n1_3), x1_4, x1_5, x1_6, x1_7, D.sl a 9 r2 q2])] d (fun n c =>
 d ≤ c → Br (decide (n > 400)) (∀ a, c ≤ a → Q (D.ag [D.lit (.int .i64 3), D.lit (.int .i64 0), D.lit (.string (bytes [])), D.lit (.string (bytes [])),
 D.lit (.int .i64 0), D.lit (.int .i64 0), D.sl Option.none 2 [] 0, D.lit (.int .i64 0), D.sl Option.none 2 [] 0, D.sl Option.none 9 [] 0, D.lit (.int .i64 n6)])
 a) (∀ d, c ≤ d → ACalls prog 53 [.bool] [.dg 9 (D.ag [D.lit (.int .i64 n1_0), D.lit (.string s1_1), D.lit (.string s1_2), D.lit (.int .i64 n1_3), x1_4, x1_5,
 x1_6, x1_7, D.sl a 9 r2 q2])] d (fun b c => d ≤ c → Br b (∀ b, c ≤ b → Q (D.ag [D.lit (.int .i64 1), D.lit (.int .i64 n1_0), D.lit (.string s1_1),
 D.lit (.string s1_2), D.lit (.int .i64 n1_3), x1_4, x1_5, x1_6, x1_7, D.sl a 9 r2 q2, D.lit (.int .i64 n6)]) b) (Br (n6 == n1) (∀ b, c ≤ b → Q (D.ag [D.lit
 (.int .i64 2), D.lit (.int .i64 n1_0), D.lit (.string s1_1), D.lit (.string s1_2), D.lit (.int .i64 n1_3), x1_4, x1_5, x1_6, x1_7, D.sl a 9 r2 q2, D.lit (.int .i64
 n6)]) b) (∀ b, c ≤ b → ACalls prog 36 [.ag 9, .int .i64] [.dg 9 (D.ag [D.lit (.int .i64 n1_0), D.lit (.string s1_1), D.lit (.string s1_2), D.lit (.int .i64
 n1_3), x1_4, x1_5, x1_6, x1_7, D.sl a 9 r2 q2])] b (fun x c d => b ≤ d → Bel d x → Br (c == 0) (∀ b, d ≤ b → Q (D.ag [D.lit (.int .i64
 4), D.lit (.int .i64 n1_0), D.lit (.string s1_1), D.lit (.string s1_2), D.lit (.int .i64 n1_3), x1_4, x1_5, x1_6, x1_7, D.sl a 9 r2 q2, D.lit (.int .i64 n6)]) b)
 (yg Q N0 n1 (IntKind.i64.wrap (n6 + 1)) n0_0 n0_1 s0_2 s0_3 n0_4 n0_5 a0_6 e0_6 c0_6 n0_7 a0_8 e0_8 c0_8 a0_9 e0_9 c0_9 n0_10 x d)))))))) : u4 Q N0 n1 n6 n0_0 n0_1 s0_2 s0_3 n0_4 n0_5 a0_6 e0_6 c0_6 n0_7 a0_8 e0_8 c0_8 a0_9 e0_9 c0_9 n0_10 n1_0 s1_1 s1_2 n1_3 x1_4 x1_5 x1_6 x1_7 m1_8 c1_8 r2 q2 N :=
  hE (H := uG) (by kernel_rfl) h
theorem vX (Q : QT [.ag 11]) (N0 : Nat) (n1 n6 n0_0 n0_1 : Int) (s0_2 s0_3 : ByteArray) (n0_4 n0_5 : Int) (a0_6 : Option Addr) (e0_6 : List D) (c0_6 : Nat) (n0_7 : Int) (a0_8 : Option Addr) (e0_8 : List D) (c0_8 : Nat) (a0_9 : Option Addr) (e0_9 : List D) (c0_9 : Nat) (n0_10 : Int) (y1 : D) (N : Nat) (h :
∀ a, N ≤ a → ACalls prog 48 [.int .i64] [.dg 9 y1] a (fun n c => a ≤ c → Br (decide (n > 400)) (∀ a, c ≤ a → Q (D.ag [D.lit (.int .i64 3), D.lit
 (.int .i64 0), D.lit (.string (bytes [])), D.lit (.string (bytes [])), D.lit (.int .i64 0), D.lit (.int .i64 0), D.sl Option.none 2 [] 0, D.lit (.int .i64 0), D.sl
 Option.none 2 [] 0, D.sl Option.none 9 [] 0, D.lit (.int .i64 n6)]) a) (∀ a, c ≤ a → ACalls prog 53 [.bool] [.dg 9 y1] a (fun b c => a ≤ c → Br b
 (∀ a, c ≤ a → Q (D.ag [D.lit (.int .i64 1), (y1.cell 0), (y1.cell 1), (y1.cell 2), (y1.cell 3), (y1.cell 4), (y1.cell 5), (y1.cell 6), (y1.cell 7), (y1.cell
 8), D.lit (.int .i64 n6)]) a) (Br (n6 == n1) (∀ a, c ≤ a → Q (D.ag [D.lit (.int .i64 2), (y1.cell 0), (y1.cell 1), (y1.cell 2), (y1.cell 3), (y1.cell 4),
 (y1.cell 5), (y1.cell 6), (y1.cell 7), (y1.cell 8), D.lit (.int .i64 n6)]) a) (∀ a, c ≤ a → ACalls prog 36 [.ag 9, .int .i64] [.dg 9 y1] a (fun x b c
 => a ≤ c → Bel c x → Br (b == 0) (∀ a, c ≤ a → Q (D.ag [D.lit (.int .i64 4), (y1.cell 0), (y1.cell 1), (y1.cell 2), (y1.cell 3), (y1.cell 4), (y1.cell
 5), (y1.cell 6), (y1.cell 7), (y1.cell 8), D.lit (.int .i64 n6)]) a) (yg Q N0 n1 (IntKind.i64.wrap (n6 + 1)) n0_0 n0_1 s0_2 s0_3 n0_4 n0_5 a0_6
 e0_6 c0_6 n0_7 a0_8 e0_8 c0_8 a0_9 e0_9 c0_9 n0_10 x c)))))))) : yg Q N0 n1 n6 n0_0 n0_1 s0_2 s0_3 n0_4 n0_5 a0_6 e0_6 c0_6 n0_7 a0_8 e0_8 c0_8 a0_9 e0_9 c0_9 n0_10 y1 N :=
  hE (H := uG) (by kernel_rfl) h
end Go.Proofs.YtnpjpplbkoammaaGreatDoor
set_option maxRecDepth 100000
namespace Go.Proofs.YtnpjpplbkoammaaGreatDoor
open Go Go.Proofs Go.Proofs.Tryz
def shT : FuncId → List Sh := fun f => match zKJ f [(50, [.row 0 1000007, .ag 11]), (51, [.row 0 1000007])] with
 | [] => sh f
 | l => l
theorem zPw {f : FuncId} {rs : List Sh} {Q : QT rs} {N : Nat} {H : Hint} {args : List PV} {F : Prop} (hc : zl prog f = true) (he : F = zG2 prog shT f rs Q N H 400 args) (h : F) : ACalls prog f rs args N Q := zNV mixed hc he h
theorem zO4 {f : FuncId} {full : List Sh} {Q : QT full} {N : Nat} {H : Hint} {args : List PV} {bx : List Bx} {F : Env → Prop} (hc : zl prog f = true) (he : ∀ E, F E = zGC prog shT f full Q N H 400 args bx E) (h : ∀ E, F E) : BCalls prog f full args bx N Q := zKw mixed hc he h
theorem zPy {f : FuncId} {rs : List Sh} {Q : QT rs} {N0 : Nat} {M : Mode} {H : Hint} {items : List Item} {st : St} {F : Prop} (he : F = pZ st fun st => W prog shT f rs Q N0 M H 400 true items st) (h : F) : AT prog f rs Q N0 M items st := zPY mixed he h
def zDU : Hint := ⟨[], [], [(2, hs 4 [ec 3 [7]])]⟩
def sQ : Hint := ⟨[hc 6 [1, 2, 6, 7, 8]], [], [(1, hs 8 [{ i := 1, hard := true, cl := [11], fs := [11] }]), (3, hs 4 [{ i := 1, hard := true, cl := [20], fs := [20] }]), (6, hs 4 [{ i := 1, hard := true, cl := [25], fs := [25] }]), (8, hs 3 [{ i := 1, hard := true, cl := [31], fs := [31] }]), (12, hs 8 [{ i := 1, hard := true, cl := [44], fs := [44] }]), (16, hs 3 [{ i := 1, hard := true, cl := [56], fs := [56] }])]⟩
def zAk : Hint := ⟨[], [], []⟩
def yu (E : Env) (Q : QT [(Sh.ag 11), (Sh.sl 0)]) (N0 : Nat) (n1 n8 : Int) (m0_0 c0_0 : Nat) (r1 : List D) (q1 : Nat) (n2_0 n2_1 : Int) (s2_2 s2_3 : ByteArray) (n2_4 n2_5 : Int) (a2_6 : Option Addr) (e2_6 : List D) (c2_6 : Nat) (n2_7 : Int) (a2_8 : Option Addr) (e2_8 : List D) (c2_8 : Nat) (a2_9 : Option Addr) (e2_9 : List D) (c2_9 : Nat) (n2_10 n3_0 : Int) (s3_1 s3_2 : ByteArray) (n3_3 : Int) (x3_4 x3_5 x3_6 x3_7 : D) (m3_8 c3_8 : Nat) (r4 : List D) (q4 : Nat) (N : Nat) : Prop := AT prog 50 [(Sh.ag 11), (Sh.sl 0)] Q N0 (.io E [.var [.sb 1 0 0 0 0], .arr 3 0 [] 0]) (zF prog 50 6) ⟨an 1 (.int .i64 n1 :: .fn 51 [.pb 0 0 0 0] :: an 3 (.pb 2 0 0 0 :: .pb 3 0 0 0 :: .int .i64 n8 :: an 49 [])), [.var [.sb 1 0 0 m0_0 c0_0], .arr 3 0 r1 q1, .var [.int .i64 n2_0, .int .i64 n2_1, .str s2_2, .str s2_3, .int .i64 n2_4, .int .i64 n2_5, .sv a2_6 2 e2_6 c2_6, .int .i64 n2_7, .sv a2_8 2 e2_8 c2_8, .sv a2_9 9 e2_9 c2_9, .int .i64 n2_10], .var [.int .i64 n3_0, .str s3_1, .str s3_2, .int .i64 n3_3, .dc x3_4, .dc x3_5, .dc x3_6, .dc x3_7, .sb 4 9 0 m3_8 c3_8], .arr 34 9 r4 q4], N, some (ud E 0 [.var [.sb 1 0 0 0 0], .arr 3 0 [] 0], [])⟩
theorem zDO (N : Nat) (x0 : D) (n1 : Int) (Q : QT [.sl 0]) (h :
Bel N x0 → ∀ b, N ≤ b → BCalls prog 50 [.ag 11, .sl 0] [.dg 9 x0, .int .i64 n1, .fn 51 [.pb 0 0 0 0]] [Bx.var [.sb 1 0 0 0 0], Bx.arr 3 0 [] 0] b (fun x a
 c d e => b ≤ e → Bel e x → Bel e (D.sl a 0 c d) → (c.length = c.length ∧ d = d) ∧ (c.length = c.length ∧ d = d) ∧ (c.length = c.length ∧ d = d)
 ∧ ∀ a b, e ≤ b → Fresh N b a [D.ag c] → ∀ e, b ≤ e → Q a c d e)) : ACalls prog 19 [.sl 0] [PV.dg 9 x0, PV.int .i64 n1] N Q :=
  zPw (H := zDU) (by kernel_rfl) (by kernel_rfl) h
theorem pO (N : Nat) (x0 : D) (n1 : Int) (mB0_0 cB0_0 : Nat) (rB1 : List D) (qB1 : Nat) (Q : QT [(Sh.ag 11), (Sh.sl 0)]) (h : ∀ E : Env,
Bel N x0 → Bel N (D.sl Option.none 0 rB1 qB1) → ∀ a, N ≤ a → ACalls prog 39 [.bool] [.dg 9 x0, .int .i64 0] a (fun b d => a ≤ d → Br (!b) (zLQ E [.var
 [.sb 1 0 0 0 0], .arr 3 0 [] 0] ∧ (mB0_0 = rB1.length ∧ cB0_0 = qB1) ∧ ∀ a, d ≤ a → Q (D.ag [D.lit (.int .i64 0), D.lit (.int .i64 0), D.lit (.string (bytes
 [])), D.lit (.string (bytes [])), D.lit (.int .i64 0), D.lit (.int .i64 0), D.sl Option.none 2 [] 0, D.lit (.int .i64 0), D.sl Option.none 2 [] 0, D.sl Option.none
 9 [] 0, D.lit (.int .i64 0)]) Option.none rB1 qB1 a) (∀ a, d ≤ a → ACalls prog 56 [.bool] [.int .i64 n1, .int .i64 0, .int .i64 200] a (fun b d =>
 a ≤ d → Br (!b) (zLQ E [.var [.sb 1 0 0 0 0], .arr 3 0 [] 0] ∧ (mB0_0 = rB1.length ∧ cB0_0 = qB1) ∧ ∀ a, d ≤ a → Q (D.ag [D.lit (.int .i64 0), D.lit
 (.int .i64 0), D.lit (.string (bytes [])), D.lit (.string (bytes [])), D.lit (.int .i64 0), D.lit (.int .i64 0), D.sl Option.none 2 [] 0, D.lit (.int .i64 0), D.sl
 Option.none 2 [] 0, D.sl Option.none 9 [] 0, D.lit (.int .i64 0)]) Option.none rB1 qB1 a) (∀ a, d ≤ a → ACalls prog 40 [Sh.pk, .int .i64, .str, .str, .int
 .i64, Sh.dc, Sh.dc, Sh.dc, Sh.dc, .row (OfNat.ofNat 34) 9] [.dg 9 x0] a (fun n s b c x d e f g h i => a ≤ i → Bel i (D.ag g) → yu
 E Q N n1 0 mB0_0 cB0_0 rB1 qB1 0 0 (bytes []) (bytes []) 0 0 Option.none [] 0 0 Option.none [] 0 Option.none [] 0 0 n s b c x d e f g.length h g h i))))) 
 ) : BCalls prog 50 [(Sh.ag 11), (Sh.sl 0)] [.dg 9 x0, .int .i64 n1, .fn 51 [.pb 0 0 0 0]] [.var [.sb 1 0 0 mB0_0 cB0_0], .arr 3 0 rB1 qB1] N Q :=
  zO4 (H := sQ) (by kernel_rfl) (fun E => by kernel_rfl) h
theorem v8 (E : Env) (Q : QT [(Sh.ag 11), (Sh.sl 0)]) (N0 : Nat) (n1 n8 : Int) (m0_0 c0_0 : Nat) (r1 : List D) (q1 : Nat) (n2_0 n2_1 : Int) (s2_2 s2_3 : ByteArray) (n2_4 n2_5 : Int) (a2_6 : Option Addr) (e2_6 : List D) (c2_6 : Nat) (n2_7 : Int) (a2_8 : Option Addr) (e2_8 : List D) (c2_8 : Nat) (a2_9 : Option Addr) (e2_9 : List D) (c2_9 : Nat) (n2_10 n3_0 : Int) (s3_1 s3_2 : ByteArray) (n3_3 : Int) (x3_4 x3_5 x3_6 x3_7 : D) (m3_8 c3_8 : Nat) (r4 : List D) (q4 : Nat) (N : Nat) (h :
(m3_8 = r4.length ∧ c3_8 = q4) ∧ (m3_8 = r4.length ∧ c3_8 = q4) ∧ ∀ a d, N ≤ d → Fresh N0 d a [D.ag r4, x3_4, x3_5, x3_6, x3_7] → ∀ e, d ≤ e → ACalls
 prog 49 [.int .i64] [.dg 9 (D.ag [D.lit (.int .i64 n3_0), D.lit (.string s3_1), D.lit (.string s3_2), D.lit (.int .i64 n3_3), x3_4, x3_5, x3_6, x3_7, D.sl a 9 r4
 q4])] e (fun n d => e ≤ d → Br (decide (n > 400)) (zLQ E [.var [.sb 1 0 0 0 0], .arr 3 0 [] 0] ∧ (m0_0 = r1.length ∧ c0_0 = q1) ∧ ∀ a, d ≤ a → Q (D.ag
 [D.lit (.int .i64 3), D.lit (.int .i64 0), D.lit (.string (bytes [])), D.lit (.string (bytes [])), D.lit (.int .i64 0), D.lit (.int .i64 0), D.sl Option.none 2 []
 0, D.lit (.int .i64 0), D.sl Option.none 2 [] 0, D.sl Option.none 9 [] 0, D.lit (.int .i64 n8)]) Option.none r1 q1 a) (∀ e, d ≤ e → ACalls prog 76 [.bool]
 [.dg 9 (D.ag [D.lit (.int .i64 n3_0), D.lit (.string s3_1), D.lit (.string s3_2), D.lit (.int .i64 n3_3), x3_4, x3_5, x3_6, x3_7, D.sl a 9 r4 q4])] e (fun b d
 => e ≤ d → Br b (zLQ E [.var [.sb 1 0 0 0 0], .arr 3 0 [] 0] ∧ (m0_0 = r1.length ∧ c0_0 = q1) ∧ ∀ b, d ≤ b → Q (D.ag [D.lit (.int .i64 1), D.lit (.int
 .i64 n3_0), D.lit (.string s3_1), D.lit (.string s3_2), D.lit (.int .i64 n3_3), x3_4, x3_5, x3_6, x3_7, D.sl a 9 r4 q4, D.lit (.int .i64 n8)]) Option.none r1 q1
 b) (Br (n8 == n1) (zLQ E [.var [.sb 1 0 0 0 0], .arr 3 0 [] 0] ∧ (m0_0 = r1.length ∧ c0_0 = q1) ∧ ∀ b, d ≤ b → Q (D.ag [D.lit (.int .i64 2), D.lit (.int
 .i64 n3_0), D.lit (.string s3_1), D.lit (.string s3_2), D.lit (.int .i64 n3_3), x3_4, x3_5, x3_6, x3_7, D.sl a 9 r4 q4, D.lit (.int .i64 n8)]) Option.none r1 q1
 b) (∀ b, d ≤ b → ACalls prog 41 [.ag 9, .int .i64] [.dg 9 (D.ag [D.lit (.int .i64 n3_0), D.lit (.string s3_1), D.lit (.string s3_2), D.lit (.int .i64 n3_3),
 x3_4, x3_5, x3_6, x3_7, D.sl a 9 r4 q4])] b (fun x d e => b ≤ e → Bel e x → Br (d == 0) (zLQ E [.var [.sb 1 0 0 0 0], .arr 3 0 [] 0] ∧ (m0_0 =
 r1.length ∧ c0_0 = q1) ∧ ∀ b, e ≤ b → Q (D.ag [D.lit (.int .i64 4), D.lit (.int .i64 n3_0), D.lit (.string s3_1), D.lit (.string s3_2), D.lit (.int .i64
 n3_3), x3_4, x3_5, x3_6, x3_7, D.sl a 9 r4 q4, D.lit (.int .i64 n8)]) Option.none r1 q1 b) (∀ a, e ≤ a → BCalls prog 51 [.sl 0] [.int .i64 d, .pb 0
 0 0 0] [Bx.var [.sb 1 0 0 m0_0 c0_0], Bx.arr 3 0 r1 q1] a (fun b c d e => a ≤ e → Bel e (D.sl b 0 c d) → ∀ a, e ≤ a → ACalls prog 40
 [Sh.pk, .int .i64, .str, .str, .int .i64, Sh.dc, Sh.dc, Sh.dc, Sh.dc, .row (OfNat.ofNat 34) 9] [.dg 9 x] a (fun b s e f g h i j k l m =>
 a ≤ m → Bel m (D.ag k) → yu E Q N0 n1 (IntKind.i64.wrap (n8 + 1)) c.length d c d n2_0 n2_1 s2_2 s2_3 n2_4 n2_5 a2_6 e2_6 c2_6 n2_7 a2_8
 e2_8 c2_8 a2_9 e2_9 c2_9 n2_10 b s e f g h i j k.length l k l m)))))))))) : yu E Q N0 n1 n8 m0_0 c0_0 r1 q1 n2_0 n2_1 s2_2 s2_3 n2_4 n2_5 a2_6 e2_6 c2_6 n2_7 a2_8 e2_8 c2_8 a2_9 e2_9 c2_9 n2_10 n3_0 s3_1 s3_2 n3_3 x3_4 x3_5 x3_6 x3_7 m3_8 c3_8 r4 q4 N :=
  zPy (H := sQ) (by kernel_rfl) h
theorem rn (N : Nat) (n0 : Int) (mB0_0 cB0_0 : Nat) (rB1 : List D) (qB1 : Nat) (Q : QT [(Sh.sl 0)]) (h : ∀ E : Env,
Bel N (D.sl Option.none 0 rB1 qB1) → (mB0_0 = rB1.length ∧ cB0_0 = qB1) ∧ zH rB1 [D.lit (.int .i64 n0)] 8 ∧ ∀ (c : Nat), zLQ E [.var [.sb 1 0 0 0 0], .arr
 3 0 [] 0] ∧ ((rB1 ++ [D.lit (.int .i64 n0)]).length = (rB1 ++ [D.lit (.int .i64 n0)]).length ∧ c = c) ∧ ∀ a, N ≤ a → Q Option.none (rB1 ++ [D.lit (.int .i64
 n0)]) c a) : BCalls prog 51 [(Sh.sl 0)] [.int .i64 n0, .pb 0 0 0 0] [.var [.sb 1 0 0 mB0_0 cB0_0], .arr 3 0 rB1 qB1] N Q :=
  zO4 (H := zAk) (by kernel_rfl) (fun E => by kernel_rfl) h
end Go.Proofs.YtnpjpplbkoammaaGreatDoor
set_option maxRecDepth 100000
namespace Go.Proofs.YtnpjpplbkoammaaGreatDoor
open Go Go.Proofs Go.Proofs.Tryz
def qb : Hint := ⟨[hc 4 [0, 1, 5]], [], [(6, [en 0, en 1, en 2, en 3, en 4, en 5, en 6, en 7, en 8])]⟩
def xu : Hint := ⟨[hc 2 [0, 1, 5]], [], []⟩
def t8 : Hint := ⟨[hc 2 [0, 1, 5]], [], []⟩
def uE : Hint := ⟨[hc 5 [5, 6, 7, 8] [(5, 3, 0)]], [], [(2, hs 5 [ec 2 [12]]), (3, hs 4 [ec 1 [16]]), (7, hs 8 [ec 1 [24]])]⟩
def sU : Hint := ⟨[], [], [(2, hs 4 [ec 2 [13]]), (5, hs 5 [ec 1 [18], ec 3 [19]]), (6, hs 4 [ec 1 [22]]), (7, hs 4 [ec 2 [24]]), (10, [en 0, en 1, ec 2 [32], ec 3 [31, 33], en 4]), (13, hs 4 [em 2 (some 7) [1, 2, 6, 8, 9]]), (17, hs 4 [em 2 none [1, 2, 6, 10] (some 8)]), (24, hs 5 [ec 1 [58], ec 3 [59]])]⟩
def wA (Q : QT [.bool]) (N0 : Nat) (a0 : Option Addr) (e0 : List D) (c0 : Nat) (a1 : Option Addr) (e1 : List D) (c1 : Nat) (n5 : Int) (N : Nat) : Prop := AT prog 20 [.bool] Q N0 .ord (zF prog 20 4) ⟨.sv a0 0 e0 c0 :: .sv a1 0 e1 c1 :: an 3 (.int .i64 n5 :: an 20 []), [], N, none⟩
def uc (Q : QT [.int .i64]) (N0 : Nat) (a0 : Option Addr) (e0 : List D) (c0 : Nat) (n1 n5 : Int) (N : Nat) : Prop := AT prog 21 [.int .i64] Q N0 .ord (zF prog 21 2) ⟨.sv a0 0 e0 c0 :: .int .i64 n1 :: an 3 (.int .i64 n5 :: an 13 []), [], N, none⟩
def yX (T : List Nat) (b0 : Nat) (QM : Int → D → Nat → Prop) (N0 : Nat) (m0 c0 : Nat) (n1 n5 : Int) (t0 : Nat) (r0 : List D) (q0 : Nat) (N : Nat) : Prop := AT prog 21 [] noQ N0 (.mk T (some b0) (0, 0) QM) (zF prog 21 2) ⟨.sb 0 0 0 m0 c0 :: .int .i64 n1 :: an 3 (.int .i64 n5 :: an 13 []), [.arr t0 0 r0 q0], N, some ([some b0], T)⟩
def xB (Q : QT [.int .i64]) (N0 : Nat) (a0 : Option Addr) (e0 : List D) (c0 : Nat) (n1 n5 : Int) (N : Nat) : Prop := AT prog 22 [.int .i64] Q N0 .ord (zF prog 22 2) ⟨.sv a0 0 e0 c0 :: .int .i64 n1 :: an 3 (.int .i64 n5 :: an 15 []), [], N, none⟩
def wl (Q : QT [.sl 0]) (N0 : Nat) (m5 c5 : Nat) (n6 n8 : Int) (r0 : List D) (q0 : Nat) (n1_0 : Int) (s1_1 s1_2 : ByteArray) (n1_3 : Int) (x1_4 x1_5 x1_6 x1_7 : D) (m1_8 c1_8 : Nat) (r2 : List D) (q2 : Nat) (N : Nat) : Prop := AT prog 18 [.sl 0] Q N0 .ord (zF prog 18 5) ⟨an 5 (.sb 0 0 0 m5 c5 :: .int .i64 n6 :: .pb 1 0 0 0 :: .int .i64 n8 :: an 25 []), [.arr 3 0 r0 q0, .var [.int .i64 n1_0, .str s1_1, .str s1_2, .int .i64 n1_3, .dc x1_4, .dc x1_5, .dc x1_6, .dc x1_7, .sb 2 9 0 m1_8 c1_8], .arr 34 9 r2 q2], N, none⟩
def z8 (Q : QT [.sl 0]) (N0 : Nat) (m5 c5 : Nat) (n6 n8 : Int) (r0 : List D) (q0 : Nat) (y1 : D) (N : Nat) : Prop := AT prog 18 [.sl 0] Q N0 .ord (zF prog 18 5) ⟨an 5 (.sb 0 0 0 m5 c5 :: .int .i64 n6 :: .pb 1 0 0 0 :: .int .i64 n8 :: an 25 []), [.arr 3 0 r0 q0, .vd y1 9], N, none⟩
theorem zEY (N : Nat) (a0 : Option Addr) (e0 : List D) (c0 : Nat) (a1 : Option Addr) (e1 : List D) (c1 : Nat) (Q : QT [.bool]) (h :
Bel N (D.sl a0 0 e0 c0) → Bel N (D.sl a1 0 e1 c1) → Br (bne (e0.length : Int) (e1.length : Int)) (∀ a, N ≤ a → Q false a) (wA Q N a0 e0 c0 a1
 e1 c1 0 N)) : ACalls prog 20 [.bool] [PV.sv a0 0 e0 c0, PV.sv a1 0 e1 c1] N Q :=
  eE (H := qb) (by kernel_rfl) (by kernel_rfl) h
theorem zBo (N : Nat) (a0 : Option Addr) (e0 : List D) (c0 : Nat) (n1 : Int) (Q : QT [.int .i64]) (h :
Bel N (D.sl a0 0 e0 c0) → uc Q N a0 e0 c0 n1 0 N) : ACalls prog 21 [.int .i64] [PV.sv a0 0 e0 c0, PV.int .i64 n1] N Q :=
 eE (H := xu) (by kernel_rfl) (by kernel_rfl) h
theorem zCW (N : Nat) (ad : Addr) (e0 : List D) (c0 : Nat) (n1 : Int) (R : D → Int → Nat → Prop) (QM : Int → D → Nat → Prop) (htree : Tree (.sl (some ad) 0 e0 c0)) (hne : e0 ≠ []) (hlen : e0.length ≤ maxLen) (h : ∀ t : Nat,
yX (D.foot (D.sl (Option.some ad) 0 e0 c0)) (Addr.block ad) QM N e0.length c0 n1 0 t e0 e0.length N)
  (hQ : ∀ k x N, QM k x N → ∃ es, x = .ag es ∧ es.length = e0.length ∧ zB es = zB e0 ∧ R (.sl (some ad) 0 es c0) k N) : MC prog 21 (.sl (some ad) 0 e0 c0) n1 N R :=
 zQI (sh := sh) (H := xu) (fuel := 400) (by kernel_rfl) (by kernel_rfl) (fun t => by kernel_rfl) htree hne hlen h hQ
theorem zCX (N : Nat) (a0 : Option Addr) (e0 : List D) (c0 : Nat) (n1 : Int) (Q : QT [.int .i64]) (h :
Bel N (D.sl a0 0 e0 c0) → xB Q N a0 e0 c0 n1 0 N) : ACalls prog 22 [.int .i64] [PV.sv a0 0 e0 c0, PV.int .i64 n1] N Q :=
 eE (H := t8) (by kernel_rfl) (by kernel_rfl) h
theorem zCr (N : Nat) (x0 : D) (n1 : Int) (Q : QT [.sl 0]) (h :
Bel N x0 → ∀ a, N ≤ a → ACalls prog 23 [.ag 11] [.dg 9 x0, .int .i64 n1] a (fun x b => a ≤ b → Bel b x → ∃ n : Int, (x.cell 10) = D.lit (.int .i64
 n) ∧ ∀ a, b ≤ a → ACalls prog 35 [Sh.pk, .int .i64, .str, .str, .int .i64, Sh.dc, Sh.dc, Sh.dc, Sh.dc, .row (OfNat.ofNat 34) 9] [.dg 9 x0] a (fun b s c
 d e f g h i j k => a ≤ k → Bel k (D.ag i) → wl Q N 0 0 n 0 [] 0 b s c d e f g h i.length j i j k))) : ACalls prog 18 [.sl 0] [PV.dg 9 x0, PV.int .i64 n1] N Q :=
  eE (H := uE) (by kernel_rfl) (by kernel_rfl) h
theorem tU (N : Nat) (x0 : D) (n1 : Int) (Q : QT [.bool]) (h :
Bel N x0 → ∀ d, N ≤ d → ACalls prog 9 [.int .i64] [.dg 9 x0, .int .i64 1048576] d (fun n e => d ≤ e → Br (decide (n < 0)) (∀ a, e ≤ a → Q true
 a) (∀ d, e ≤ d → ACalls prog 11 [.ag 9] [.dg 9 x0] d (fun x e => d ≤ e → Bel e x → ∀ d, e ≤ d → ACalls prog 18 [.sl 0] [.dg 9 x, .int .i64
 n1] d (fun a c e f => d ≤ f → Bel f (D.sl a 0 c e) → ∀ d, f ≤ d → ACalls prog 11 [.ag 9] [.dg 9 x0] d (fun f g => d ≤ g → Bel g f
 → ∀ d, g ≤ d → ACalls prog 19 [.sl 0] [.dg 9 f, .int .i64 n1] d (fun g h i j => d ≤ j → Bel j (D.sl g 0 h i) → ∀ d, j
 ≤ d → ACalls prog 20 [.bool] [.sv g 0 h i, .sv a 0 c e] d (fun b j => d ≤ j → Br (!b) (∀ a, j ≤ a → Q false a) (∀ b, j ≤
 b → ACalls prog 11 [.ag 9] [.dg 9 x0] b (fun d j => b ≤ j → Bel j d → ∀ b, j ≤ b → ACalls prog 13 [.bool] [.dg 9 f, .dg 9 d] b
 (fun d j => b ≤ j → Br (!d) (∀ a, j ≤ a → Q false a) (Tree f ∧ Low N f ∧ f = f ∧ Dis f [D.sl a 0 c e, D.sl g 0 h i, x0]
 ∧ ∀ b, j ≤ b → MC prog 14 f 1 b (fun d f j => b ≤ j → Br (decide (f < 0)) (∀ a, j ≤ a → Q false a) (∀ b, j ≤ b
 → ACalls prog 20 [.bool] [.sv g 0 h i, .sv a 0 c e] b (fun f j => b ≤ j → Br (!f) (∀ a, j ≤ a → Q false a) (Tree (D.sl g 0
 h i) ∧ Low N (D.sl g 0 h i) ∧ Dis (D.sl g 0 h i) [D.sl a 0 c e, x0, d] ∧ D.sl g 0 h i = D.sl g 0 h i ∧ ∀ b, j ≤ b →
 MC prog 21 (D.sl g 0 h i) 1 b (fun d f h => b ≤ h → ∀ b, h ≤ b → ACalls prog 22 [.int .i64] [.sv g 0 (D.elems d) i, .int .i64
 1] b (fun h j => b ≤ j → Br (decide (h < 0)) (∀ a, j ≤ a → Q false a) (Br (bne h f) (∀ a, j ≤ a → Q false a) (∀ b,
 j ≤ b → ACalls prog 11 [.ag 9] [.dg 9 x0] b (fun h j => b ≤ j → Bel j h → ∀ b, j ≤ b → ACalls prog 19 [.sl 0] [.dg 9 h, .int
 .i64 n1] b (fun h j k l => b ≤ l → Bel l (D.sl h 0 j k) → ∀ b, l ≤ b → ACalls prog 20 [.bool] [.sv h 0 j k, .sv a 0
 c e] b (fun a c => b ≤ c → Br (!a) (∀ a, c ≤ a → Q false a) (∀ a, c ≤ a → ACalls prog 22 [.int .i64] [.sv g 0 (D.elems d)
 i, .int .i64 1] a (fun b c => a ≤ c → Br (decide (b < 0)) (∀ a, c ≤ a → Q false a) (Br (bne b f) (∀ a, c ≤ a → Q false
 a) (∀ a, c ≤ a → Q true a))))))))))))))))))))))))))) : ACalls prog 5 [.bool] [PV.dg 9 x0, PV.int .i64 n1] N Q :=
  eE (H := sU) (by kernel_rfl) (by kernel_rfl) h
theorem t7 (Q : QT [.bool]) (N0 : Nat) (a0 : Option Addr) (e0 : List D) (c0 : Nat) (a1 : Option Addr) (e1 : List D) (c1 : Nat) (n5 : Int) (N : Nat) (h :
Br (decide (n5 < (e0.length : Int))) ((0 ≤ n5 ∧ n5 < (e0.length : Int)) ∧ ∃ n : Int, List.getD e0 n5.toNat default = D.lit (.int .i64 n) ∧ (0 ≤ n5 ∧ n5 < (e1.length
 : Int)) ∧ ∃ a : Int, List.getD e1 n5.toNat default = D.lit (.int .i64 a) ∧ Br (bne n a) (∀ a, N ≤ a → Q false a) (wA Q N0 a0 e0 c0 a1 e1
 c1 (IntKind.i64.wrap (n5 + 1)) N)) (∀ a, N ≤ a → Q true a)) : wA Q N0 a0 e0 c0 a1 e1 c1 n5 N :=
  hE (H := qb) (by kernel_rfl) h
theorem pT (Q : QT [.int .i64]) (N0 : Nat) (a0 : Option Addr) (e0 : List D) (c0 : Nat) (n1 n5 : Int) (N : Nat) (h :
Br (decide (n5 < (e0.length : Int))) ((0 ≤ n5 ∧ n5 < (e0.length : Int)) ∧ False) (∀ a, N ≤ a → Q n1 a)) : uc Q N0 a0 e0 c0 n1 n5 N :=
 hE (H := xu) (by kernel_rfl) h
theorem wx (T : List Nat) (b0 : Nat) (QM : Int → D → Nat → Prop) (N0 : Nat) (m0 c0 : Nat) (n1 n5 : Int) (t0 : Nat) (r0 : List D) (q0 : Nat) (N : Nat) (h :
Br (decide (n5 < (m0 : Int))) ((0 ≤ n5 ∧ n5 < (m0 : Int) ∧ (0 + n5.toNat : Nat) < r0.length) ∧ (0 + n5.toNat : Nat) < r0.length ∧ yX T b0 QM N0
 m0 c0 (IntKind.i64.wrap (n1 + 1)) (IntKind.i64.wrap (n5 + 1)) t0 (List.set r0 (0 + n5.toNat : Nat) (D.lit (.int .i64 n1))) q0 N) (b0 = b0 ∧ ∀ a, N ≤ a → QM n1
 (D.ag r0) a)) : yX T b0 QM N0 m0 c0 n1 n5 t0 r0 q0 N :=
  hE (H := xu) (by kernel_rfl) h
theorem uM (Q : QT [.int .i64]) (N0 : Nat) (a0 : Option Addr) (e0 : List D) (c0 : Nat) (n1 n5 : Int) (N : Nat) (h :
Br (decide (n5 < (e0.length : Int))) ((0 ≤ n5 ∧ n5 < (e0.length : Int)) ∧ ∃ n : Int, List.getD e0 n5.toNat default = D.lit (.int .i64 n) ∧ Br (bne n n1) (∀ a,
 N ≤ a → Q (-1) a) (xB Q N0 a0 e0 c0 (IntKind.i64.wrap (n1 + 1)) (IntKind.i64.wrap (n5 + 1)) N)) (∀ a, N ≤ a → Q n1 a)) : xB Q N0 a0 e0 c0 n1 n5 N :=
  hE (H := t8) (by kernel_rfl) h
theorem xa (Q : QT [.sl 0]) (N0 : Nat) (m5 c5 : Nat) (n6 n8 : Int) (r0 : List D) (q0 : Nat) (n1_0 : Int) (s1_1 s1_2 : ByteArray) (n1_3 : Int) (x1_4 x1_5 x1_6 x1_7 : D) (m1_8 c1_8 : Nat) (r2 : List D) (q2 : Nat) (N : Nat) (h :
Br (decide (n8 < n6)) ((m1_8 = r2.length ∧ c1_8 = q2) ∧ (m1_8 = r2.length ∧ c1_8 = q2) ∧ ∀ a b, N ≤ b → Fresh N0 b a [D.ag r2] → ∀ d, b ≤ d → ACalls
 prog 36 [.ag 9, .int .i64] [.dg 9 (D.ag [D.lit (.int .i64 n1_0), D.lit (.string s1_1), D.lit (.string s1_2), D.lit (.int .i64 n1_3), x1_4, x1_5, x1_6, x1_7, D.sl
 a 9 r2 q2])] d (fun x n a => d ≤ a → Bel a x → (m5 = r0.length ∧ c5 = q0) ∧ zH r0 [D.lit (.int .i64 n)] 8 ∧ ∀ (c : Nat), z8 Q N0
 (r0 ++ [D.lit (.int .i64 n)]).length c n6 (IntKind.i64.wrap (n8 + 1)) (r0 ++ [D.lit (.int .i64 n)]) c x a)) ((m5 = r0.length ∧ c5 = q0) ∧ (m5 = r0.length ∧ c5
 = q0) ∧ (m5 = r0.length ∧ c5 = q0) ∧ ∀ a b, N ≤ b → Fresh N0 b a [D.ag r0] → ∀ c, b ≤ c → Q a r0 q0 c)) : wl Q N0 m5 c5 n6 n8 r0 q0 n1_0 s1_1 s1_2 n1_3 x1_4 x1_5 x1_6 x1_7 m1_8 c1_8 r2 q2 N :=
  hE (H := uE) (by kernel_rfl) h
theorem xd (Q : QT [.sl 0]) (N0 : Nat) (m5 c5 : Nat) (n6 n8 : Int) (r0 : List D) (q0 : Nat) (y1 : D) (N : Nat) (h :
Br (decide (n8 < n6)) (∀ a, N ≤ a → ACalls prog 36 [.ag 9, .int .i64] [.dg 9 y1] a (fun x n b => a ≤ b → Bel b x → (m5 = r0.length ∧ c5 = q0) ∧ zH
 r0 [D.lit (.int .i64 n)] 8 ∧ ∀ (c : Nat), z8 Q N0 (r0 ++ [D.lit (.int .i64 n)]).length c n6 (IntKind.i64.wrap (n8 + 1)) (r0 ++ [D.lit (.int .i64
 n)]) c x b)) ((m5 = r0.length ∧ c5 = q0) ∧ (m5 = r0.length ∧ c5 = q0) ∧ (m5 = r0.length ∧ c5 = q0) ∧ ∀ a b, N ≤ b → Fresh N0 b a [D.ag r0] → ∀ c, b ≤
 c → Q a r0 q0 c)) : z8 Q N0 m5 c5 n6 n8 r0 q0 y1 N :=
  hE (H := uE) (by kernel_rfl) h
end Go.Proofs.YtnpjpplbkoammaaGreatDoor
