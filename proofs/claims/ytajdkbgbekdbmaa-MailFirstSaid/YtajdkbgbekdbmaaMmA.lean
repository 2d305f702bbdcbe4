/- Runs of Go code, as printed by a program: no condition beyond those that each states. -/
import Derived.Test.YtajdkbgbekdbmaaMlZ
import Derived.Test.YtajdkbgbekdbmaaChecked
import Derived.KernelRfl
namespace Go.Proofs.Ytajdkbgbekdbmaa
set_option linter.unusedVariables false
set_option linter.unusedSimpArgs false
set_option maxRecDepth 100000
open Go.RowKit E
attribute [local irreducible] FA sndR sndB lT gBx
set_option maxHeartbeats 2000000 in
theorem mf_l (n : Nat) (A : Nat → Option Addr) (M C : Nat → Nat) (h : 20 < n) : LawOk Try.prog 3 ([.nv (.one (.own 0))]) ([.ro 1 n (gRw A M C)]) (bA true) :=
  law_run GmF_ok Try.func3 (orc := ⟨[true], []⟩) (obl := [decide ((↑n : Int) > (20 : Int)) = true,
      true = true]) (by kernel_rfl) (.cons (by exact decide_eq_true (by omega)) (.cons (by rfl) .nil))

set_option maxHeartbeats 2000000 in
theorem mf_ret (n : Nat) (A : Nat → Option Addr) (M C : Nat → Nat) (hn : n ≤ 20) (L : List (List Int)) (al : List Int) (i : Nat) (hi : i < n) (hlong : 50 < M i) : CodeOk Try.prog 1 (loopOf Try.f3 0) (mkSt 103 [(0, .nv (.one (.own 0))), (3, .nv (.one (.own 2))), (4, .nv (.one (.own 3))), (5, .nv (.one (.val (.slice none 0 0)))), (23, .nv (.one (.own 0))), (24, iA n), (25, iA i)] [.ro 1 n (gRw A M C), .abs (FA L), .row 26 1 i (fun j => [.root 1 j true]), .row 3 1 al.length (gN (lT al))]) .ret (mkSt 103 [(2, bA true)] [.ro 1 n (gRw A M C)]) :=
  code_run GmF_ok (orc := ⟨[true, true], []⟩) (obl := [decide ((↑i : Int) < (↑n : Int)) = true,
      (0 : Int) ≤ (↑i : Int),
      (↑i : Int) < (↑n : Int),
      Int.toNat (↑i : Int) < n,
      decide ((↑(M (Int.toNat (↑i : Int))) : Int) > (50 : Int)) = true,
      true = true,
      n = n,
      ∀ (i : Nat), i < n → Value.slice (A i) (M i) (C i) = Value.slice (A i) (M i) (C i) ∧ True]) (by kernel_rfl) (.cons (by exact decide_eq_true (by omega)) (.cons (by omega) (.cons (by omega) (.cons (by assumption) (.cons (by (rw [Int.toNat_natCast]; exact decide_eq_true (by omega))) (.cons (by rfl) (.cons (by rfl) (.cons (by (intro _ _; exact ⟨rfl, trivial⟩)) .nil)))))))) (Nat.le_of_ble_eq_true (by kernel_rfl))

set_option maxHeartbeats 2000000 in
theorem mf_x (n : Nat) (A : Nat → Option Addr) (M C : Nat → Nat) (hn : n ≤ 20) (L : List (List Int)) (al : List Int) : CodeOk Try.prog 1 (loopOf Try.f3 0) (mkSt 103 [(0, .nv (.one (.own 0))), (3, .nv (.one (.own 2))), (4, .nv (.one (.own 3))), (5, .nv (.one (.val (.slice none 0 0)))), (23, .nv (.one (.own 0))), (24, iA n), (25, iA n)] [.ro 1 n (gRw A M C), .abs (FA L), .row 26 1 n (fun j => [.root 1 j true]), .row 3 1 al.length (gN (lT al))]) (.exit 0) (mkSt 103 [(0, .nv (.one (.own 0))), (3, .nv (.one (.own 2))), (4, .nv (.one (.own 3))), (5, .nv (.one (.val (.slice none 0 0))))] [.ro 1 n (gRw A M C), .abs (FA L), .row 26 1 n (fun j => [.root 1 j true]), .row 3 1 al.length (gN (lT al))]) :=
  code_run GmF_ok (orc := ⟨[false], []⟩) (obl := [decide ((↑n : Int) < (↑n : Int)) = false,
      Value.slice none (0 : Nat) (0 : Nat) = Value.slice none (0 : Nat) (0 : Nat),
      n = n,
      ∀ (i : Nat), i < n → Value.slice (A i) (M i) (C i) = Value.slice (A i) (M i) (C i) ∧ True,
      FA L = FA L,
      n = n,
      ∀ (i : Nat), i < n → i = i ∧ True,
      List.length al = List.length al,
      ∀ (i : Nat), i < List.length al → lT al i = lT al i ∧ True]) (by kernel_rfl) (.cons (by exact decide_eq_false (by omega)) (.cons (by rfl) (.cons (by rfl) (.cons (by (intro _ _; exact ⟨rfl, trivial⟩)) (.cons (by rfl) (.cons (by rfl) (.cons (by (intro _ _; exact ⟨rfl, trivial⟩)) (.cons (by rfl) (.cons (by (intro _ _; exact ⟨rfl, trivial⟩)) .nil))))))))) (Nat.le_of_ble_eq_true (by kernel_rfl))

set_option maxHeartbeats 2000000 in
theorem mf_a (n : Nat) (A : Nat → Option Addr) (M C : Nat → Nat) (hn : n ≤ 20) (L : List (List Int)) (al : List Int) (i : Nat) (hi : i < n) : CodeOk Try.prog 1 (subC [false] (loopOf Try.f3 0)) (mkSt 103 [(0, .nv (.one (.own 0))), (3, .nv (.one (.own 2))), (4, .nv (.one (.own 3))), (5, .nv (.one (.val (.slice none 0 0)))), (23, .nv (.one (.own 0))), (24, iA n), (25, iA i)] [.ro 1 n (gRw A M C), .abs (FA L), .row 26 1 i (fun j => [.root 1 j true]), .row 3 1 al.length (gN (lT al))]) .normal (mkSt 103 [(0, .nv (.one (.own 0))), (3, .nv (.one (.own 2))), (4, .nv (.one (.own 3))), (5, .nv (.one (.val (.slice none 0 0)))), (23, .nv (.one (.own 0))), (24, iA n), (25, iA i), (26, bA true)] [.ro 1 n (gRw A M C), .abs (FA L), .row 26 1 i (fun j => [.root 1 j true]), .row 3 1 al.length (gN (lT al))]) :=
  code_run GmF_ok (orc := ⟨[], []⟩) (obl := [Value.slice none (0 : Nat) (0 : Nat) = Value.slice none (0 : Nat) (0 : Nat),
      (↑n : Int) = (↑n : Int),
      (↑i : Int) = (↑i : Int),
      decide ((↑i : Int) < (↑n : Int)) = true,
      n = n,
      ∀ (i : Nat), i < n → Value.slice (A i) (M i) (C i) = Value.slice (A i) (M i) (C i) ∧ True,
      FA L = FA L,
      i = i,
      ∀ (i_1 : Nat), i_1 < i → i_1 = i_1 ∧ True,
      List.length al = List.length al,
      ∀ (i : Nat), i < List.length al → lT al i = lT al i ∧ True]) (by kernel_rfl) (.cons (by rfl) (.cons (by rfl) (.cons (by rfl) (.cons (by exact decide_eq_true (by omega)) (.cons (by rfl) (.cons (by (intro _ _; exact ⟨rfl, trivial⟩)) (.cons (by rfl) (.cons (by rfl) (.cons (by (intro _ _; exact ⟨rfl, trivial⟩)) (.cons (by rfl) (.cons (by (intro _ _; exact ⟨rfl, trivial⟩)) .nil))))))))))) (Nat.le_of_ble_eq_true (by kernel_rfl))

set_option maxHeartbeats 2000000 in
theorem mf_b (n : Nat) (A : Nat → Option Addr) (M C : Nat → Nat) (hn : n ≤ 20) (L : List (List Int)) (al : List Int) (i : Nat) : CodeOk Try.prog 1 (subC [true, false] (loopOf Try.f3 0)) (mkSt 103 [(0, .nv (.one (.own 0))), (3, .nv (.one (.own 2))), (4, .nv (.one (.own 3))), (5, .nv (.one (.val (.slice none 0 0)))), (23, .nv (.one (.own 0))), (24, iA n), (25, iA i), (26, bA true)] [.ro 1 n (gRw A M C), .abs (FA L), .row 26 1 i (fun j => [.root 1 j true]), .row 3 1 al.length (gN (lT al))]) .normal (mkSt 103 [(0, .nv (.one (.own 0))), (3, .nv (.one (.own 2))), (4, .nv (.one (.own 3))), (5, .nv (.one (.val (.slice none 0 0)))), (23, .nv (.one (.own 0))), (24, iA n), (25, iA i)] [.ro 1 n (gRw A M C), .abs (FA L), .row 26 1 i (fun j => [.root 1 j true]), .row 3 1 al.length (gN (lT al))]) :=
  code_run GmF_ok (orc := ⟨[true], []⟩) (obl := [true = true,
      Value.slice none (0 : Nat) (0 : Nat) = Value.slice none (0 : Nat) (0 : Nat),
      (↑n : Int) = (↑n : Int),
      (↑i : Int) = (↑i : Int),
      n = n,
      ∀ (i : Nat), i < n → Value.slice (A i) (M i) (C i) = Value.slice (A i) (M i) (C i) ∧ True,
      FA L = FA L,
      i = i,
      ∀ (i_1 : Nat), i_1 < i → i_1 = i_1 ∧ True,
      List.length al = List.length al,
      ∀ (i : Nat), i < List.length al → lT al i = lT al i ∧ True]) (by kernel_rfl) (.cons (by rfl) (.cons (by rfl) (.cons (by rfl) (.cons (by rfl) (.cons (by rfl) (.cons (by (intro _ _; exact ⟨rfl, trivial⟩)) (.cons (by rfl) (.cons (by rfl) (.cons (by (intro _ _; exact ⟨rfl, trivial⟩)) (.cons (by rfl) (.cons (by (intro _ _; exact ⟨rfl, trivial⟩)) .nil))))))))))) (Nat.le_of_ble_eq_true (by kernel_rfl))

set_option maxHeartbeats 2000000 in
theorem mf_d (n : Nat) (A : Nat → Option Addr) (M C : Nat → Nat) (hn : n ≤ 20) (L : List (List Int)) (al : List Int) (i : Nat) (hi : i < n) : CodeOk Try.prog 1 (subC [true, true, true] (loopOf Try.f3 0)) (mkSt 103 [(0, .nv (.one (.own 0))), (3, .nv (.one (.own 2))), (4, .nv (.one (.own 3))), (5, .nv (.one (.val (.slice none 0 0)))), (23, .nv (.one (.own 0))), (24, iA n), (25, iA i)] [.ro 1 n (gRw A M C), .abs (FA L), .row 26 1 (i + 1) (fun j => [.root 1 j true]), .row 3 1 al.length (gN (lT al))]) .normal (mkSt 103 [(0, .nv (.one (.own 0))), (3, .nv (.one (.own 2))), (4, .nv (.one (.own 3))), (5, .nv (.one (.val (.slice none 0 0)))), (23, .nv (.one (.own 0))), (24, iA n), (25, iA (i + 1 : Nat))] [.ro 1 n (gRw A M C), .abs (FA L), .row 26 1 (i + 1 : Nat) (fun j => [.root 1 j true]), .row 3 1 al.length (gN (lT al))]) :=
  code_run GmF_ok (orc := ⟨[], []⟩) (obl := [Value.slice none (0 : Nat) (0 : Nat) = Value.slice none (0 : Nat) (0 : Nat),
      (↑n : Int) = (↑n : Int),
      IntKind.wrap IntKind.i64 ((↑i : Int) + (1 : Int)) = (↑(i + (1 : Nat)) : Int),
      n = n,
      ∀ (i : Nat), i < n → Value.slice (A i) (M i) (C i) = Value.slice (A i) (M i) (C i) ∧ True,
      FA L = FA L,
      i + (1 : Nat) = i + (1 : Nat),
      ∀ (i_1 : Nat), i_1 < i + (1 : Nat) → i_1 = i_1 ∧ True,
      List.length al = List.length al,
      ∀ (i : Nat), i < List.length al → lT al i = lT al i ∧ True]) (by kernel_rfl) (.cons (by rfl) (.cons (by rfl) (.cons (by exact w64 (by omega) (by omega)) (.cons (by rfl) (.cons (by (intro _ _; exact ⟨rfl, trivial⟩)) (.cons (by rfl) (.cons (by rfl) (.cons (by (intro _ _; exact ⟨rfl, trivial⟩)) (.cons (by rfl) (.cons (by (intro _ _; exact ⟨rfl, trivial⟩)) .nil)))))))))) (Nat.le_of_ble_eq_true (by kernel_rfl))

set_option maxHeartbeats 2000000 in
theorem mi_r (n : Nat) (A : Nat → Option Addr) (M C : Nat → Nat) (hn : n ≤ 20) (L : List (List Int)) (al l : List Int) (i : Nat) (j : Nat) (hj : j < l.length) (hl : l.length ≤ 50) (hs : sndR false 60 ((l.take j).map vI) = true) (hb : sndB false 60 ((l.take j).map vI) (.int .i64 (lT l j)) = (l.take (j + 1)).map vI) : CodeOk Try.prog 1 (loopOf Try.f3 1) (mkSt 103 [(0, .nv (.one (.own 0))), (3, .nv (.one (.own 2))), (4, .nv (.one (.own 3))), (5, .nv (.one (.val (.slice none 0 0)))), (7, .nv (.one (.own 4))), (8, .nv (.one (.ptr 5 0))), (23, .nv (.one (.own 0))), (24, iA n), (25, iA i), (39, .nv (.one (.own 4))), (40, iA l.length), (41, iA j)] [.ro 1 n (gRw A M C), .abs (FA L), .row 26 1 i (fun j => [.root 1 j true]), .row 3 1 al.length (gN (lT al)), .ro 1 l.length (gN (lT l)), .box 56 [.chn 6, .val (.bool false)], .chan 60 ((l.take j).map vI) false]) .normal (mkSt 103 [(0, .nv (.one (.own 0))), (3, .nv (.one (.own 2))), (4, .nv (.one (.own 3))), (5, .nv (.one (.val (.slice none 0 0)))), (7, .nv (.one (.own 4))), (8, .nv (.one (.ptr 5 0))), (23, .nv (.one (.own 0))), (24, iA n), (25, iA i), (39, .nv (.one (.own 4))), (40, iA l.length), (41, iA (j + 1 : Nat))] [.ro 1 n (gRw A M C), .abs (FA L), .row 26 1 i (fun j => [.root 1 j true]), .row 3 1 al.length (gN (lT al)), .ro 1 l.length (gN (lT l)), .box 56 [.chn 6, .val (.bool false)], .chan 60 ((l.take (j + 1)).map vI) false]) :=
  code_run GmF_ok (orc := ⟨[true, false], []⟩) (obl := [decide ((↑j : Int) < (↑(List.length l) : Int)) = true,
      (0 : Int) ≤ (↑j : Int),
      (↑j : Int) < (↑(List.length l) : Int),
      Int.toNat (↑j : Int) < List.length l,
      (0 : Nat) = (0 : Nat),
      lT l (Int.toNat (↑j : Int)) = lT l (Int.toNat (↑j : Int)),
      false = false,
      (60 : Nat) = (60 : Nat),
      List.map vI (List.take j l) = List.map vI (List.take j l),
      false = false,
      (!sndR false (60 : Nat) (List.map vI (List.take j l))) = false,
      Value.slice none (0 : Nat) (0 : Nat) = Value.slice none (0 : Nat) (0 : Nat),
      (0 : Nat) = (0 : Nat),
      (↑n : Int) = (↑n : Int),
      (↑i : Int) = (↑i : Int),
      (↑(List.length l) : Int) = (↑(List.length l) : Int),
      IntKind.wrap IntKind.i64 ((↑j : Int) + (1 : Int)) = (↑(j + (1 : Nat)) : Int),
      n = n,
      ∀ (i : Nat), i < n → Value.slice (A i) (M i) (C i) = Value.slice (A i) (M i) (C i) ∧ True,
      FA L = FA L,
      i = i,
      ∀ (i_1 : Nat), i_1 < i → i_1 = i_1 ∧ True,
      List.length al = List.length al,
      ∀ (i : Nat), i < List.length al → lT al i = lT al i ∧ True,
      List.length l = List.length l,
      ∀ (i : Nat), i < List.length l → lT l i = lT l i ∧ True,
      false = false,
      (60 : Nat) = (60 : Nat),
      sndB false (60 : Nat) (List.map vI (List.take j l)) (Value.int IntKind.i64 (lT l (Int.toNat (↑j : Int)))) = List.map vI (List.take (j + (1 : Nat)) l),
      false = false]) (by kernel_rfl) (.cons (by exact decide_eq_true (by omega)) (.cons (by omega) (.cons (by omega) (.cons (by assumption) (.cons (by rfl) (.cons (by rfl) (.cons (by rfl) (.cons (by rfl) (.cons (by rfl) (.cons (by rfl) (.cons (by (rw [hs]; rfl)) (.cons (by rfl) (.cons (by rfl) (.cons (by rfl) (.cons (by rfl) (.cons (by rfl) (.cons (by exact w64 (by omega) (by omega)) (.cons (by rfl) (.cons (by (intro _ _; exact ⟨rfl, trivial⟩)) (.cons (by rfl) (.cons (by rfl) (.cons (by (intro _ _; exact ⟨rfl, trivial⟩)) (.cons (by rfl) (.cons (by (intro _ _; exact ⟨rfl, trivial⟩)) (.cons (by rfl) (.cons (by (intro _ _; exact ⟨rfl, trivial⟩)) (.cons (by rfl) (.cons (by rfl) (.cons (by assumption) (.cons (by rfl) .nil)))))))))))))))))))))))))))))) (Nat.le_of_ble_eq_true (by kernel_rfl))

set_option maxHeartbeats 2000000 in
theorem mi_x (n : Nat) (A : Nat → Option Addr) (M C : Nat → Nat) (hn : n ≤ 20) (L : List (List Int)) (al l : List Int) (i : Nat) (hl : l.length ≤ 50) : CodeOk Try.prog 1 (loopOf Try.f3 1) (mkSt 103 [(0, .nv (.one (.own 0))), (3, .nv (.one (.own 2))), (4, .nv (.one (.own 3))), (5, .nv (.one (.val (.slice none 0 0)))), (7, .nv (.one (.own 4))), (8, .nv (.one (.ptr 5 0))), (23, .nv (.one (.own 0))), (24, iA n), (25, iA i), (39, .nv (.one (.own 4))), (40, iA l.length), (41, iA l.length)] [.ro 1 n (gRw A M C), .abs (FA L), .row 26 1 i (fun j => [.root 1 j true]), .row 3 1 al.length (gN (lT al)), .ro 1 l.length (gN (lT l)), .box 56 [.chn 6, .val (.bool false)], .chan 60 ((l.take l.length).map vI) false]) (.exit 2) (mkSt 103 [(0, .nv (.one (.own 0))), (3, .nv (.one (.own 2))), (4, .nv (.one (.own 3))), (5, .nv (.one (.val (.slice none 0 0)))), (7, .nv (.one (.own 4))), (8, .nv (.one (.ptr 5 0))), (23, .nv (.one (.own 0))), (24, iA n), (25, iA i)] [.ro 1 n (gRw A M C), .abs (FA L), .row 26 1 i (fun j => [.root 1 j true]), .row 3 1 al.length (gN (lT al)), .ro 1 l.length (gN (lT l)), .box 56 [.chn 6, .val (.bool false)], .chan 60 (l.map vI) false]) :=
  code_run GmF_ok (orc := ⟨[false], []⟩) (obl := [decide ((↑(List.length l) : Int) < (↑(List.length l) : Int)) = false,
      Value.slice none (0 : Nat) (0 : Nat) = Value.slice none (0 : Nat) (0 : Nat),
      (0 : Nat) = (0 : Nat),
      (↑n : Int) = (↑n : Int),
      (↑i : Int) = (↑i : Int),
      n = n,
      ∀ (i : Nat), i < n → Value.slice (A i) (M i) (C i) = Value.slice (A i) (M i) (C i) ∧ True,
      FA L = FA L,
      i = i,
      ∀ (i_1 : Nat), i_1 < i → i_1 = i_1 ∧ True,
      List.length al = List.length al,
      ∀ (i : Nat), i < List.length al → lT al i = lT al i ∧ True,
      List.length l = List.length l,
      ∀ (i : Nat), i < List.length l → lT l i = lT l i ∧ True,
      false = false,
      (60 : Nat) = (60 : Nat),
      List.map vI (List.take (List.length l) l) = List.map vI l,
      false = false]) (by kernel_rfl) (.cons (by exact decide_eq_false (by omega)) (.cons (by rfl) (.cons (by rfl) (.cons (by rfl) (.cons (by rfl) (.cons (by rfl) (.cons (by (intro _ _; exact ⟨rfl, trivial⟩)) (.cons (by rfl) (.cons (by rfl) (.cons (by (intro _ _; exact ⟨rfl, trivial⟩)) (.cons (by rfl) (.cons (by (intro _ _; exact ⟨rfl, trivial⟩)) (.cons (by rfl) (.cons (by (intro _ _; exact ⟨rfl, trivial⟩)) (.cons (by rfl) (.cons (by rfl) (.cons (by (rw [List.take_length])) (.cons (by rfl) .nil)))))))))))))))))) (Nat.le_of_ble_eq_true (by kernel_rfl))

set_option maxHeartbeats 2000000 in
theorem mf_r (n : Nat) (A : Nat → Option Addr) (M C : Nat → Nat) (hn : n ≤ 20) (L : List (List Int)) (al l : List Int) (i : Nat) (hi : i < n) (hl : l.length ≤ 50) (hal : al.length ≤ 2000) (hap : al.length + l.length = (al ++ l).length) (l0 : CodeOk Try.prog 1 (.loop (loopOf Try.f3 1)) (mkSt 103 [(0, .nv (.one (.own 0))), (3, .nv (.one (.own 2))), (4, .nv (.one (.own 3))), (5, .nv (.one (.val (.slice none 0 0)))), (7, .nv (.one (.own 4))), (8, .nv (.one (.ptr 5 0))), (23, .nv (.one (.own 0))), (24, iA n), (25, iA i), (39, .nv (.one (.own 4))), (40, iA l.length), (41, iA (0 : Nat))] [.ro 1 n (gRw A M C), .abs (FA L), .row 26 1 i (fun j => [.root 1 j true]), .row 3 1 al.length (gN (lT al)), .ro 1 l.length (gN (lT l)), .box 56 [.chn 6, .val (.bool false)], .chan 60 ((l.take 0).map vI) false]) (.exit 2) (mkSt 103 [(0, .nv (.one (.own 0))), (3, .nv (.one (.own 2))), (4, .nv (.one (.own 3))), (5, .nv (.one (.val (.slice none 0 0)))), (7, .nv (.one (.own 4))), (8, .nv (.one (.ptr 5 0))), (23, .nv (.one (.own 0))), (24, iA n), (25, iA i)] [.ro 1 n (gRw A M C), .abs (FA L), .row 26 1 i (fun j => [.root 1 j true]), .row 3 1 al.length (gN (lT al)), .ro 1 l.length (gN (lT l)), .box 56 [.chn 6, .val (.bool false)], .chan 60 (l.map vI) false])) : CodeOk Try.prog 1 (subC [true, true, false, true, true] (loopOf Try.f3 0)) (mkSt 103 [(0, .nv (.one (.own 0))), (3, .nv (.one (.own 2))), (4, .nv (.one (.own 3))), (5, .nv (.one (.val (.slice none 0 0)))), (7, .nv (.one (.own 4))), (23, .nv (.one (.own 0))), (24, iA n), (25, iA i)] [.ro 1 n (gRw A M C), .abs (FA L), .row 26 1 i (fun j => [.root 1 j true]), .row 3 1 al.length (gN (lT al)), .ro 1 l.length (gN (lT l))]) .normal (mkSt 103 [(0, .nv (.one (.own 0))), (3, .nv (.one (.own 2))), (4, .nv (.one (.own 3))), (5, .nv (.one (.val (.slice none 0 0)))), (8, .nv (.one (.ptr 4 0))), (23, .nv (.one (.own 0))), (24, iA n), (25, iA i)] [.ro 1 n (gRw A M C), .abs (FA L), .row 26 1 (i + 1) (gBx i), .row 3 1 (al ++ l).length (gN (lT (al ++ l))), .box 56 [.chn 5, .val (.bool false)], .chan 60 (l.map vI) false]) :=
  code_run GmF_ok (orc := ⟨[false, false], [⟨mkSt 103 [(0, .nv (.one (.own 0))), (3, .nv (.one (.own 2))), (4, .nv (.one (.own 3))), (5, .nv (.one (.val (.slice none 0 0)))), (7, .nv (.one (.own 4))), (8, .nv (.one (.ptr 5 0))), (23, .nv (.one (.own 0))), (24, iA n), (25, iA i), (39, .nv (.one (.own 4))), (40, iA l.length), (41, iA (0 : Nat))] [.ro 1 n (gRw A M C), .abs (FA L), .row 26 1 i (fun j => [.root 1 j true]), .row 3 1 al.length (gN (lT al)), .ro 1 l.length (gN (lT l)), .box 56 [.chn 6, .val (.bool false)], .chan 60 ((l.take 0).map vI) false], .exit 2, mkSt 103 [(0, .nv (.one (.own 0))), (3, .nv (.one (.own 2))), (4, .nv (.one (.own 3))), (5, .nv (.one (.val (.slice none 0 0)))), (7, .nv (.one (.own 4))), (8, .nv (.one (.ptr 5 0))), (23, .nv (.one (.own 0))), (24, iA n), (25, iA i)] [.ro 1 n (gRw A M C), .abs (FA L), .row 26 1 i (fun j => [.root 1 j true]), .row 3 1 al.length (gN (lT al)), .ro 1 l.length (gN (lT l)), .box 56 [.chn 6, .val (.bool false)], .chan 60 (l.map vI) false]⟩]⟩) (obl := [decide ((↑(List.length l) : Int) > (50 : Int)) = false,
      (0 : Int) ≤ (60 : Int),
      (1 : Nat) ≤ Int.toNat (60 : Int),
      Int.toNat (60 : Int) ≤ (4096 : Nat),
      (60 : Int) = (↑(Int.toNat (60 : Int)) : Int),
      false = false,
      Value.slice none (0 : Nat) (0 : Nat) = Value.slice none (0 : Nat) (0 : Nat),
      (0 : Nat) = (0 : Nat),
      (↑n : Int) = (↑n : Int),
      (↑i : Int) = (↑i : Int),
      (↑(List.length l) : Int) = (↑(List.length l) : Int),
      (0 : Int) = (↑(0 : Nat) : Int),
      n = n,
      ∀ (i : Nat), i < n → Value.slice (A i) (M i) (C i) = Value.slice (A i) (M i) (C i) ∧ True,
      FA L = FA L,
      i = i,
      ∀ (i_1 : Nat), i_1 < i → i_1 = i_1 ∧ True,
      List.length al = List.length al,
      ∀ (i : Nat), i < List.length al → lT al i = lT al i ∧ True,
      List.length l = List.length l,
      ∀ (i : Nat), i < List.length l → lT l i = lT l i ∧ True,
      false = false,
      (60 : Nat) = (60 : Nat),
      [] = List.map vI (List.take (0 : Nat) l),
      false = false,
      (1 : Nat) ≤ (7 : Nat),
      CodeOk Try.prog (1 : Nat) (Code.loop (loopOf Try.f3 (1 : Nat))) (mkSt (103 : Nat) [((0 : Nat), SV.nv (NV.one (At.own (0 : Nat)))), ((3 : Nat), SV.nv (NV.one (At.own (2 : Nat)))), ((4 : Nat), SV.nv (NV.one (At.own (3 : Nat)))), ((5 : Nat), SV.nv (NV.one (At.val (Value.slice none (0 : Nat) (0 : Nat))))), ((7 : Nat), SV.nv (NV.one (At.own (4 : Nat)))), ((8 : Nat), SV.nv (NV.one (At.ptr (5 : Nat) (0 : Nat)))), ((23 : Nat), SV.nv (NV.one (At.own (0 : Nat)))), ((24 : Nat), iA (↑n : Int)), ((25 : Nat), iA (↑i : Int)), ((39 : Nat), SV.nv (NV.one (At.own (4 : Nat)))), ((40 : Nat), iA (↑(List.length l) : Int)), ((41 : Nat), iA (↑(0 : Nat) : Int))] [Seg.ro (1 : Nat) n (gRw A M C), Seg.abs (FA L), Seg.row (26 : TypeId) (1 : Nat) i fun (j : Nat) => [At.root (1 : Nat) j true], Seg.row (3 : TypeId) (1 : Nat) (List.length al) (gN (lT al)), Seg.ro (1 : Nat) (List.length l) (gN (lT l)), Seg.box (56 : TypeId) [At.chn (6 : Nat), At.val (Value.bool false)], Seg.chan (60 : Nat) (List.map vI (List.take (0 : Nat) l)) false]) (Ex.exit (2 : Nat)) (mkSt (103 : Nat) [((0 : Nat), SV.nv (NV.one (At.own (0 : Nat)))), ((3 : Nat), SV.nv (NV.one (At.own (2 : Nat)))), ((4 : Nat), SV.nv (NV.one (At.own (3 : Nat)))), ((5 : Nat), SV.nv (NV.one (At.val (Value.slice none (0 : Nat) (0 : Nat))))), ((7 : Nat), SV.nv (NV.one (At.own (4 : Nat)))), ((8 : Nat), SV.nv (NV.one (At.ptr (5 : Nat) (0 : Nat)))), ((23 : Nat), SV.nv (NV.one (At.own (0 : Nat)))), ((24 : Nat), iA (↑n : Int)), ((25 : Nat), iA (↑i : Int))] [Seg.ro (1 : Nat) n (gRw A M C), Seg.abs (FA L), Seg.row (26 : TypeId) (1 : Nat) i fun (j : Nat) => [At.root (1 : Nat) j true], Seg.row (3 : TypeId) (1 : Nat) (List.length al) (gN (lT al)), Seg.ro (1 : Nat) (List.length l) (gN (lT l)), Seg.box (56 : TypeId) [At.chn (6 : Nat), At.val (Value.bool false)], Seg.chan (60 : Nat) (List.map vI l) false]),
      List.length al + List.length l ≤ (4611686018427387904 : Nat),
      (List.length al + List.length l) * (8 : Nat) ≤ (140737488355328 : Nat),
      i + (1 : Nat) ≤ (4611686018427387904 : Nat),
      (i + (1 : Nat)) * (8 : Nat) ≤ (140737488355328 : Nat),
      Value.slice none (0 : Nat) (0 : Nat) = Value.slice none (0 : Nat) (0 : Nat),
      (0 : Nat) = (0 : Nat),
      (↑n : Int) = (↑n : Int),
      (↑i : Int) = (↑i : Int),
      n = n,
      ∀ (i : Nat), i < n → Value.slice (A i) (M i) (C i) = Value.slice (A i) (M i) (C i) ∧ True,
      FA L = FA L,
      i + (1 : Nat) = i + (1 : Nat),
      ∀ (i_1 : Nat), i_1 < i + (1 : Nat) → AllT (leAts ([(nat_lit 0, Bd.same (nat_lit 0))] ++ ([((0 : Nat), Bd.same (0 : Nat))] ++ ([((2 : Nat), Bd.same (9 : Nat))] ++ ([((3 : Nat), Bd.same (7 : Nat))] ++ ([] ++ ([((4 : Nat), Bd.same (5 : Nat))] ++ ([((0 : Nat), Bd.same (0 : Nat))] ++ ([] ++ ([] ++ [])))))))) ++ ([] ++ ([] ++ ([] ++ ([] ++ ([((5 : Nat), Bd.same (6 : Nat))] ++ ([] ++ []) ++ ([] ++ []))))) ++ ([] ++ [] ++ [])) ++ [((0 : Nat), Bd.same (0 : Nat)), ((1 : Nat), Bd.same (1 : Nat)), ((2 : Nat), Bd.same (2 : Nat)), ((3 : Nat), Bd.same (3 : Nat)), ((4 : Nat), Bd.same (4 : Nat)), ((5 : Nat), Bd.same (5 : Nat))]) (6 : Nat) (if i_1 = i then [At.ptr (5 : Nat) (0 : Nat)] else [At.root (1 : Nat) i_1 true]) (gBx i i_1)),
      List.length al + List.length l = List.length (al ++ l),
      ∀ (i : Nat), i < List.length al + List.length l → AllT (leAts ([(nat_lit 0, Bd.same (nat_lit 0))] ++ ([((0 : Nat), Bd.same (0 : Nat))] ++ ([((2 : Nat), Bd.same (9 : Nat))] ++ ([((3 : Nat), Bd.same (7 : Nat))] ++ ([] ++ ([((4 : Nat), Bd.same (5 : Nat))] ++ ([((0 : Nat), Bd.same (0 : Nat))] ++ ([] ++ ([] ++ [])))))))) ++ ([] ++ ([] ++ ([] ++ ([] ++ ([((5 : Nat), Bd.same (6 : Nat))] ++ ([] ++ []) ++ ([] ++ []))))) ++ ([] ++ [] ++ [])) ++ [((0 : Nat), Bd.same (0 : Nat)), ((1 : Nat), Bd.same (1 : Nat)), ((2 : Nat), Bd.same (2 : Nat)), ((3 : Nat), Bd.same (3 : Nat)), ((4 : Nat), Bd.same (4 : Nat)), ((5 : Nat), Bd.same (5 : Nat))]) (6 : Nat) (if List.length l = (1 : Nat) then if i = List.length al then gN (lT l) (0 : Nat) else gN (lT al) i else if i < List.length al then gN (lT al) i else gN (lT l) (i - List.length al)) (gN (lT (al ++ l)) i)),
      false = false,
      (60 : Nat) = (60 : Nat),
      List.map vI l = List.map vI l,
      false = false]) (by kernel_rfl) (.cons (by exact decide_eq_false (by omega)) (.cons (by trivial) (.cons (by trivial) (.cons (by trivial) (.cons (by rfl) (.cons (by rfl) (.cons (by rfl) (.cons (by rfl) (.cons (by rfl) (.cons (by rfl) (.cons (by rfl) (.cons (by rfl) (.cons (by rfl) (.cons (by (intro _ _; exact ⟨rfl, trivial⟩)) (.cons (by rfl) (.cons (by rfl) (.cons (by (intro _ _; exact ⟨rfl, trivial⟩)) (.cons (by rfl) (.cons (by (intro _ _; exact ⟨rfl, trivial⟩)) (.cons (by rfl) (.cons (by (intro _ _; exact ⟨rfl, trivial⟩)) (.cons (by rfl) (.cons (by rfl) (.cons (by rfl) (.cons (by rfl) (.cons (by trivial) (.cons (by assumption) (.cons (by omega) (.cons (by omega) (.cons (by omega) (.cons (by omega) (.cons (by rfl) (.cons (by rfl) (.cons (by rfl) (.cons (by rfl) (.cons (by rfl) (.cons (by (intro _ _; exact ⟨rfl, trivial⟩)) (.cons (by rfl) (.cons (by rfl) (.cons (by (intro j hj; refine bx_le _ _ ?_ ?_ j; exact And.intro rfl trivial; intro z; exact And.intro rfl trivial)) (.cons (by assumption) (.cons (by (intro j hj; exact app_le _ _ al l (by omega))) (.cons (by rfl) (.cons (by rfl) (.cons (by rfl) (.cons (by rfl) .nil)))))))))))))))))))))))))))))))))))))))))))))) (Nat.le_of_ble_eq_true (by kernel_rfl))

set_option maxHeartbeats 2000000 in
theorem m3_r (N : FiN) (ih : FnCs 10 (csFi N)) (A : Nat → Option Addr) (M C : Nat → Nat) (hn : N.n ≤ 20) (al : List Int) (hal : al.length ≤ 2000) (k la : Nat) (hk : k < al.length) (hla : la ≤ N.k) (hkn : N.k < N.n) (hx : lT al k = N.x) : CodeOk Try.prog 1 (loopOf Try.f3 2) (mkSt 103 [(0, .nv (.one (.own 0))), (3, .nv (.one (.own 2))), (4, .nv (.one (.own 3))), (5, .nv (.one (.own 4))), (12, iA la), (59, iA al.length), (60, iA k)] [.ro 1 N.n (gRw A M C), .abs (FA N.L), .row 26 1 N.n (fun j => [.root 1 j true]), .row 3 1 al.length (gN (lT al)), .row 3 1 k (gN (lT al))]) .normal (mkSt 103 [(0, .nv (.one (.own 0))), (3, .nv (.one (.own 2))), (4, .nv (.one (.own 3))), (5, .nv (.one (.own 4))), (12, iA N.k), (59, iA al.length), (60, iA (k + 1 : Nat))] [.ro 1 N.n (gRw A M C), .abs (FA (N.L.set N.k N.t)), .row 26 1 N.n (fun j => [.root 1 j true]), .row 3 1 al.length (gN (lT al)), .row 3 1 (k + 1) (gN (lT al))]) :=
  code_run (Gf3_ok N ih) (orc := ⟨[true, false, false, false], []⟩) (obl := [decide ((↑k : Int) < (↑(List.length al) : Int)) = true,
      FiN.n N = FiN.n N,
      ∀ (i : Nat), i < FiN.n N → i = i ∧ True,
      FA (FiN.L N) = FA (FiN.L N),
      (!true) = false,
      decide ((↑(FiN.k N) : Int) < (↑la : Int)) = false,
      decide ((↑(FiN.k N) : Int) ≥ (↑(FiN.n N) : Int)) = false,
      k + (1 : Nat) ≤ (4611686018427387904 : Nat),
      (k + (1 : Nat)) * (8 : Nat) ≤ (140737488355328 : Nat),
      (↑(FiN.k N) : Int) = (↑(FiN.k N) : Int),
      (↑(List.length al) : Int) = (↑(List.length al) : Int),
      IntKind.wrap IntKind.i64 ((↑k : Int) + (1 : Int)) = (↑(k + (1 : Nat)) : Int),
      FiN.n N = FiN.n N,
      ∀ (i : Nat), i < FiN.n N → Value.slice (A i) (M i) (C i) = Value.slice (A i) (M i) (C i) ∧ True,
      FA (List.set (FiN.L N) (FiN.k N) (FiN.t N)) = FA (List.set (FiN.L N) (FiN.k N) (FiN.t N)),
      FiN.n N = FiN.n N,
      ∀ (i : Nat), i < FiN.n N → i = i ∧ True,
      List.length al = List.length al,
      ∀ (i : Nat), i < List.length al → lT al i = lT al i ∧ True,
      k + (1 : Nat) = k + (1 : Nat),
      ∀ (i : Nat), i < k + (1 : Nat) → AllT (leAts ([(nat_lit 0, Bd.same (nat_lit 0))] ++ ([((0 : Nat), Bd.same (0 : Nat))] ++ ([((2 : Nat), Bd.same (2 : Nat))] ++ ([((3 : Nat), Bd.same (3 : Nat))] ++ ([((4 : Nat), Bd.same (6 : Nat))] ++ ([] ++ ([] ++ ([] ++ []))))))) ++ ([] ++ ([] ++ ([] ++ ([] ++ ([] ++ [])))) ++ ([] ++ [])) ++ [((0 : Nat), Bd.same (0 : Nat)), ((1 : Nat), Bd.same (1 : Nat)), ((2 : Nat), Bd.same (2 : Nat)), ((3 : Nat), Bd.same (3 : Nat)), ((4 : Nat), Bd.same (4 : Nat))]) (5 : Nat) (if i = k then [At.val (Value.int IntKind.i64 (FiN.x N))] else gN (lT al) i) (gN (lT al) i))]) (by kernel_rfl) (.cons (by exact decide_eq_true (by omega)) (.cons (by rfl) (.cons (by (intro _ _; exact ⟨rfl, trivial⟩)) (.cons (by rfl) (.cons (by rfl) (.cons (by exact decide_eq_false (by omega)) (.cons (by exact decide_eq_false (by omega)) (.cons (by omega) (.cons (by omega) (.cons (by rfl) (.cons (by rfl) (.cons (by exact w64 (by omega) (by omega)) (.cons (by rfl) (.cons (by (intro _ _; exact ⟨rfl, trivial⟩)) (.cons (by rfl) (.cons (by rfl) (.cons (by (intro _ _; exact ⟨rfl, trivial⟩)) (.cons (by rfl) (.cons (by (intro _ _; exact ⟨rfl, trivial⟩)) (.cons (by rfl) (.cons (by (intro j hj; exact one_le _ _ (fun _ _ => rfl) hx hj)) .nil))))))))))))))))))))) (Nat.le_of_ble_eq_true (by kernel_rfl))

set_option maxHeartbeats 2000000 in
theorem m3_x (N : FiN) (A : Nat → Option Addr) (M C : Nat → Nat) (hn : N.n ≤ 20) (al : List Int) (hal : al.length ≤ 2000) (L : List (List Int)) (la : Nat) : CodeOk Try.prog 1 (loopOf Try.f3 2) (mkSt 103 [(0, .nv (.one (.own 0))), (3, .nv (.one (.own 2))), (4, .nv (.one (.own 3))), (5, .nv (.one (.own 4))), (12, iA la), (59, iA al.length), (60, iA al.length)] [.ro 1 N.n (gRw A M C), .abs (FA L), .row 26 1 N.n (fun j => [.root 1 j true]), .row 3 1 al.length (gN (lT al)), .row 3 1 al.length (gN (lT al))]) (.exit 4) (mkSt 103 [(3, .nv (.one (.own 2))), (4, .nv (.one (.own 3))), (5, .nv (.one (.own 4)))] [.ro 1 N.n (gRw A M C), .abs (FA L), .row 26 1 N.n (fun j => [.root 1 j true]), .row 3 1 al.length (gN (lT al)), .row 3 1 al.length (gN (lT al))]) :=
  code_run GmF_ok (orc := ⟨[false], []⟩) (obl := [decide ((↑(List.length al) : Int) < (↑(List.length al) : Int)) = false,
      FiN.n N = FiN.n N,
      ∀ (i : Nat), i < FiN.n N → Value.slice (A i) (M i) (C i) = Value.slice (A i) (M i) (C i) ∧ True,
      FA L = FA L,
      FiN.n N = FiN.n N,
      ∀ (i : Nat), i < FiN.n N → i = i ∧ True,
      List.length al = List.length al,
      ∀ (i : Nat), i < List.length al → lT al i = lT al i ∧ True,
      List.length al = List.length al,
      ∀ (i : Nat), i < List.length al → lT al i = lT al i ∧ True]) (by kernel_rfl) (.cons (by exact decide_eq_false (by omega)) (.cons (by rfl) (.cons (by (intro _ _; exact ⟨rfl, trivial⟩)) (.cons (by rfl) (.cons (by rfl) (.cons (by (intro _ _; exact ⟨rfl, trivial⟩)) (.cons (by rfl) (.cons (by (intro _ _; exact ⟨rfl, trivial⟩)) (.cons (by rfl) (.cons (by (intro _ _; exact ⟨rfl, trivial⟩)) .nil)))))))))) (Nat.le_of_ble_eq_true (by kernel_rfl))

set_option maxHeartbeats 2000000 in
theorem mf_lr (w0 : World) (n : Nat) (A : Nat → Option Addr) (M C : Nat → Nat) (hn : n ≤ 20) (l0 : CodeOkW Try.prog w0 (1 : Nat) (.loop (loopOf Try.f3 0)) (mkSt 103 [(0, .nv (.one (.own 0))), (3, .nv (.one (.val (.slice none 0 0)))), (4, .nv (.one (.val (.slice none 0 0)))), (5, .nv (.one (.val (.slice none 0 0)))), (23, .nv (.one (.own 0))), (24, iA n), (25, iA (0 : Nat))] [.ro 1 n (gRw A M C)]) .ret (mkSt 103 [(2, bA true)] [.ro 1 n (gRw A M C)])) : LawOkW Try.prog w0 3 ([.nv (.one (.own 0))]) ([.ro 1 n (gRw A M C)]) (bA true) :=
  law_runW GmF_ok Try.func3 (orc := ⟨[false], [⟨mkSt 103 [(0, .nv (.one (.own 0))), (3, .nv (.one (.val (.slice none 0 0)))), (4, .nv (.one (.val (.slice none 0 0)))), (5, .nv (.one (.val (.slice none 0 0)))), (23, .nv (.one (.own 0))), (24, iA n), (25, iA (0 : Nat))] [.ro 1 n (gRw A M C)], .ret, mkSt 103 [(2, bA true)] [.ro 1 n (gRw A M C)]⟩]⟩) (obl := [decide ((↑n : Int) > (20 : Int)) = false,
      Value.slice none (0 : Nat) (0 : Nat) = Value.slice none (0 : Nat) (0 : Nat),
      Value.slice none (0 : Nat) (0 : Nat) = Value.slice none (0 : Nat) (0 : Nat),
      Value.slice none (0 : Nat) (0 : Nat) = Value.slice none (0 : Nat) (0 : Nat),
      (↑n : Int) = (↑n : Int),
      (0 : Int) = (↑(0 : Nat) : Int),
      n = n,
      ∀ (i : Nat), i < n → Value.slice (A i) (M i) (C i) = Value.slice (A i) (M i) (C i) ∧ True,
      (1 : Nat) ≤ (1 : Nat),
      CodeOkW Try.prog w0 (1 : Nat) (Code.loop (loopOf Try.f3 (0 : Nat))) (mkSt (103 : Nat) [((0 : Nat), SV.nv (NV.one (At.own (0 : Nat)))), ((3 : Nat), SV.nv (NV.one (At.val (Value.slice none (0 : Nat) (0 : Nat))))), ((4 : Nat), SV.nv (NV.one (At.val (Value.slice none (0 : Nat) (0 : Nat))))), ((5 : Nat), SV.nv (NV.one (At.val (Value.slice none (0 : Nat) (0 : Nat))))), ((23 : Nat), SV.nv (NV.one (At.own (0 : Nat)))), ((24 : Nat), iA (↑n : Int)), ((25 : Nat), iA (↑(0 : Nat) : Int))] [Seg.ro (1 : Nat) n (gRw A M C)]) Ex.ret (mkSt (103 : Nat) [((2 : Nat), bA true)] [Seg.ro (1 : Nat) n (gRw A M C)]),
      true = true]) (by kernel_rfl) (.cons (by exact decide_eq_false (by omega)) (.cons (by rfl) (.cons (by rfl) (.cons (by rfl) (.cons (by rfl) (.cons (by rfl) (.cons (by rfl) (.cons (by (intro _ _; exact ⟨rfl, trivial⟩)) (.cons (by trivial) (.cons (by assumption) (.cons (by rfl) .nil)))))))))))

set_option maxHeartbeats 2000000 in
theorem mf_f (w0 : World) (N : FeN) (ih : FnCs 10 (csFn ⟨N.L, N.n, 0, 0, []⟩) ∧ N.al.length ≤ 1000000) (A : Nat → Option Addr) (M C : Nat → Nat) (hn : N.n ≤ 20) (L0 : List (List Int)) (hal : N.al.length ≤ 2000) (l0 : CodeOkW Try.prog w0 (1 : Nat) (.loop (loopOf Try.f3 0)) (mkSt 103 [(0, .nv (.one (.own 0))), (3, .nv (.one (.val (.slice none 0 0)))), (4, .nv (.one (.val (.slice none 0 0)))), (5, .nv (.one (.val (.slice none 0 0)))), (23, .nv (.one (.own 0))), (24, iA N.n), (25, iA (0 : Nat))] [.ro 1 N.n (gRw A M C)]) (.exit 0) (mkSt 103 [(0, .nv (.one (.own 0))), (3, .nv (.one (.own 2))), (4, .nv (.one (.own 3))), (5, .nv (.one (.val (.slice none 0 0))))] [.ro 1 N.n (gRw A M C), .abs (FA L0), .row 26 1 N.n (fun j => [.root 1 j true]), .row 3 1 N.al.length (gN (lT N.al))])) (l2 : CodeOkW Try.prog w0 (1 : Nat) (.loop (loopOf Try.f3 2)) (mkSt 103 [(0, .nv (.one (.own 0))), (3, .nv (.one (.own 2))), (4, .nv (.one (.own 3))), (5, .nv (.one (.own 4))), (12, iA (0 : Nat)), (59, iA N.al.length), (60, iA (0 : Nat))] [.ro 1 N.n (gRw A M C), .abs (FA L0), .row 26 1 N.n (fun j => [.root 1 j true]), .row 3 1 N.al.length (gN (lT N.al)), .row 3 1 0 (gN (lT N.al))]) (.exit 4) (mkSt 103 [(3, .nv (.one (.own 2))), (4, .nv (.one (.own 3))), (5, .nv (.one (.own 4)))] [.ro 1 N.n (gRw A M C), .abs (FA N.L), .row 26 1 N.n (fun j => [.root 1 j true]), .row 3 1 N.al.length (gN (lT N.al)), .row 3 1 N.al.length (gN (lT N.al))])) : LawOkW Try.prog w0 3 ([.nv (.one (.own 0))]) ([.ro 1 N.n (gRw A M C)]) (bA true) :=
  law_runW (Gfe_ok N ih) Try.func3 (orc := ⟨[false, true, true], [⟨mkSt 103 [(0, .nv (.one (.own 0))), (3, .nv (.one (.val (.slice none 0 0)))), (4, .nv (.one (.val (.slice none 0 0)))), (5, .nv (.one (.val (.slice none 0 0)))), (23, .nv (.one (.own 0))), (24, iA N.n), (25, iA (0 : Nat))] [.ro 1 N.n (gRw A M C)], .exit 0, mkSt 103 [(0, .nv (.one (.own 0))), (3, .nv (.one (.own 2))), (4, .nv (.one (.own 3))), (5, .nv (.one (.val (.slice none 0 0))))] [.ro 1 N.n (gRw A M C), .abs (FA L0), .row 26 1 N.n (fun j => [.root 1 j true]), .row 3 1 N.al.length (gN (lT N.al))]⟩, ⟨mkSt 103 [(0, .nv (.one (.own 0))), (3, .nv (.one (.own 2))), (4, .nv (.one (.own 3))), (5, .nv (.one (.own 4))), (12, iA (0 : Nat)), (59, iA N.al.length), (60, iA (0 : Nat))] [.ro 1 N.n (gRw A M C), .abs (FA L0), .row 26 1 N.n (fun j => [.root 1 j true]), .row 3 1 N.al.length (gN (lT N.al)), .row 3 1 0 (gN (lT N.al))], .exit 4, mkSt 103 [(3, .nv (.one (.own 2))), (4, .nv (.one (.own 3))), (5, .nv (.one (.own 4)))] [.ro 1 N.n (gRw A M C), .abs (FA N.L), .row 26 1 N.n (fun j => [.root 1 j true]), .row 3 1 N.al.length (gN (lT N.al)), .row 3 1 N.al.length (gN (lT N.al))]⟩]⟩) (obl := [decide ((↑(FeN.n N) : Int) > (20 : Int)) = false,
      Value.slice none (0 : Nat) (0 : Nat) = Value.slice none (0 : Nat) (0 : Nat),
      Value.slice none (0 : Nat) (0 : Nat) = Value.slice none (0 : Nat) (0 : Nat),
      Value.slice none (0 : Nat) (0 : Nat) = Value.slice none (0 : Nat) (0 : Nat),
      (↑(FeN.n N) : Int) = (↑(FeN.n N) : Int),
      (0 : Int) = (↑(0 : Nat) : Int),
      FeN.n N = FeN.n N,
      ∀ (i : Nat), i < FeN.n N → Value.slice (A i) (M i) (C i) = Value.slice (A i) (M i) (C i) ∧ True,
      (1 : Nat) ≤ (1 : Nat),
      CodeOkW Try.prog w0 (1 : Nat) (Code.loop (loopOf Try.f3 (0 : Nat))) (mkSt (103 : Nat) [((0 : Nat), SV.nv (NV.one (At.own (0 : Nat)))), ((3 : Nat), SV.nv (NV.one (At.val (Value.slice none (0 : Nat) (0 : Nat))))), ((4 : Nat), SV.nv (NV.one (At.val (Value.slice none (0 : Nat) (0 : Nat))))), ((5 : Nat), SV.nv (NV.one (At.val (Value.slice none (0 : Nat) (0 : Nat))))), ((23 : Nat), SV.nv (NV.one (At.own (0 : Nat)))), ((24 : Nat), iA (↑(FeN.n N) : Int)), ((25 : Nat), iA (↑(0 : Nat) : Int))] [Seg.ro (1 : Nat) (FeN.n N) (gRw A M C)]) (Ex.exit (0 : Nat)) (mkSt (103 : Nat) [((0 : Nat), SV.nv (NV.one (At.own (0 : Nat)))), ((3 : Nat), SV.nv (NV.one (At.own (2 : Nat)))), ((4 : Nat), SV.nv (NV.one (At.own (3 : Nat)))), ((5 : Nat), SV.nv (NV.one (At.val (Value.slice none (0 : Nat) (0 : Nat)))))] [Seg.ro (1 : Nat) (FeN.n N) (gRw A M C), Seg.abs (FA L0), Seg.row (26 : TypeId) (1 : Nat) (FeN.n N) fun (j : Nat) => [At.root (1 : Nat) j true], Seg.row (3 : TypeId) (1 : Nat) (List.length (FeN.al N)) (gN (lT (FeN.al N)))]),
      (0 : Int) = (↑(0 : Nat) : Int),
      (↑(List.length (FeN.al N)) : Int) = (↑(List.length (FeN.al N)) : Int),
      (0 : Int) = (↑(0 : Nat) : Int),
      FeN.n N = FeN.n N,
      ∀ (i : Nat), i < FeN.n N → Value.slice (A i) (M i) (C i) = Value.slice (A i) (M i) (C i) ∧ True,
      FA L0 = FA L0,
      FeN.n N = FeN.n N,
      ∀ (i : Nat), i < FeN.n N → i = i ∧ True,
      List.length (FeN.al N) = List.length (FeN.al N),
      ∀ (i : Nat), i < List.length (FeN.al N) → lT (FeN.al N) i = lT (FeN.al N) i ∧ True,
      (0 : Nat) = (0 : Nat),
      (1 : Nat) ≤ (5 : Nat),
      CodeOkW Try.prog w0 (1 : Nat) (Code.loop (loopOf Try.f3 (2 : Nat))) (mkSt (103 : Nat) [((0 : Nat), SV.nv (NV.one (At.own (0 : Nat)))), ((3 : Nat), SV.nv (NV.one (At.own (2 : Nat)))), ((4 : Nat), SV.nv (NV.one (At.own (3 : Nat)))), ((5 : Nat), SV.nv (NV.one (At.own (4 : Nat)))), ((12 : Nat), iA (↑(0 : Nat) : Int)), ((59 : Nat), iA (↑(List.length (FeN.al N)) : Int)), ((60 : Nat), iA (↑(0 : Nat) : Int))] [Seg.ro (1 : Nat) (FeN.n N) (gRw A M C), Seg.abs (FA L0), Seg.row (26 : TypeId) (1 : Nat) (FeN.n N) fun (j : Nat) => [At.root (1 : Nat) j true], Seg.row (3 : TypeId) (1 : Nat) (List.length (FeN.al N)) (gN (lT (FeN.al N))), Seg.row (3 : TypeId) (1 : Nat) (0 : Nat) (gN (lT (FeN.al N)))]) (Ex.exit (4 : Nat)) (mkSt (103 : Nat) [((3 : Nat), SV.nv (NV.one (At.own (2 : Nat)))), ((4 : Nat), SV.nv (NV.one (At.own (3 : Nat)))), ((5 : Nat), SV.nv (NV.one (At.own (4 : Nat))))] [Seg.ro (1 : Nat) (FeN.n N) (gRw A M C), Seg.abs (FA (FeN.L N)), Seg.row (26 : TypeId) (1 : Nat) (FeN.n N) fun (j : Nat) => [At.root (1 : Nat) j true], Seg.row (3 : TypeId) (1 : Nat) (List.length (FeN.al N)) (gN (lT (FeN.al N))), Seg.row (3 : TypeId) (1 : Nat) (List.length (FeN.al N)) (gN (lT (FeN.al N)))]),
      FeN.n N = FeN.n N,
      ∀ (i : Nat), i < FeN.n N → i = i ∧ True,
      FA (FeN.L N) = FA (FeN.L N),
      (!false) = true,
      List.length (FeN.al N) = List.length (FeN.al N),
      ∀ (i : Nat), i < List.length (FeN.al N) → lT (FeN.al N) i = lT (FeN.al N) i ∧ True,
      List.length (FeN.al N) = List.length (FeN.al N),
      ∀ (i : Nat), i < List.length (FeN.al N) → lT (FeN.al N) i = lT (FeN.al N) i ∧ True,
      true = true,
      true = true]) (by kernel_rfl) (.cons (by exact decide_eq_false (by omega)) (.cons (by rfl) (.cons (by rfl) (.cons (by rfl) (.cons (by rfl) (.cons (by rfl) (.cons (by rfl) (.cons (by (intro _ _; exact ⟨rfl, trivial⟩)) (.cons (by trivial) (.cons (by assumption) (.cons (by rfl) (.cons (by rfl) (.cons (by rfl) (.cons (by rfl) (.cons (by (intro _ _; exact ⟨rfl, trivial⟩)) (.cons (by rfl) (.cons (by rfl) (.cons (by (intro _ _; exact ⟨rfl, trivial⟩)) (.cons (by rfl) (.cons (by (intro _ _; exact ⟨rfl, trivial⟩)) (.cons (by rfl) (.cons (by trivial) (.cons (by assumption) (.cons (by rfl) (.cons (by (intro _ _; exact ⟨rfl, trivial⟩)) (.cons (by rfl) (.cons (by rfl) (.cons (by rfl) (.cons (by (intro _ _; exact ⟨rfl, trivial⟩)) (.cons (by rfl) (.cons (by (intro _ _; exact ⟨rfl, trivial⟩)) (.cons (by rfl) (.cons (by rfl) .nil)))))))))))))))))))))))))))))))))
end Go.Proofs.Ytajdkbgbekdbmaa
