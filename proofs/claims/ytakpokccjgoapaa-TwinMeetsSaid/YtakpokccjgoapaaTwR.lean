/- Runs of Go code, as printed by a program: no condition beyond those that each states. -/
import Derived.Test.YtakpokccjgoapaaTwQ
import Derived.Test.YtakpokccjgoapaaChecked
import Derived.KernelRfl
namespace Go.Proofs.Ytakpokccjgoapaa
set_option linter.unusedVariables false
set_option linter.unusedSimpArgs false
set_option maxRecDepth 100000
open Go.RowKit E
set_option maxHeartbeats 2000000 in
theorem pminI_z (n : Nat) : FnOk Try.prog 17 ([nilA]) ([]) (itI 0 0 false) ([]) :=
  fn_run Gt5_ok Try.func17 (orc := ⟨[false], []⟩) (obl := [Value.pointer none = Value.pointer none,
      false = false,
      (0 : Int) = (0 : Int),
      (0 : Int) = (0 : Int),
      false = false]) (by kernel_rfl) (.cons (by rfl) (.cons (by rfl) (.cons (by rfl) (.cons (by rfl) (.cons (by rfl) .nil))))) (Nat.le_of_ble_eq_true (by kernel_rfl))

set_option maxHeartbeats 2000000 in
theorem pmaxI_z (n : Nat) : FnOk Try.prog 18 ([nilA]) ([]) (itI 0 0 false) ([]) :=
  fn_run Gt5_ok Try.func18 (orc := ⟨[false], []⟩) (obl := [Value.pointer none = Value.pointer none,
      false = false,
      (0 : Int) = (0 : Int),
      (0 : Int) = (0 : Int),
      false = false]) (by kernel_rfl) (.cons (by rfl) (.cons (by rfl) (.cons (by rfl) (.cons (by rfl) (.cons (by rfl) .nil))))) (Nat.le_of_ble_eq_true (by kernel_rfl))

set_option maxHeartbeats 2000000 in
theorem pminI_0 (T : Tw Int) (c m : Int) : FnOk Try.prog 17 ([.nv (.one (.ptr 0 0))]) (twMI 0 T c m) (itI 0 0 false) (twNI 0 T c m) :=
  fn_run Gt5_ok Try.func17 (orc := ⟨[false], []⟩) (obl := [(0 : Nat) = (0 : Nat),
      c = c,
      m = m,
      (0 : Nat) = (0 : Nat),
      ∀ (i : Nat), i < (0 : Nat) → Tw.r T i = Tw.r (twI (gTi T)) i ∧ Tw.c T i = Tw.c (twI (gTi T)) i ∧ Tw.x T i = Tw.x (twI (gTi T)) i ∧ True,
      isP (0 : Nat) (0 : Int) = false,
      atR (twI (gTi T)) (0 : Nat) (0 : Int) = (0 : Int),
      atX (0 : Int) (twI (gTi T)) (0 : Nat) (0 : Int) = (0 : Int),
      isP (0 : Nat) (0 : Int) = false,
      c = c,
      m = m,
      (0 : Nat) = (0 : Nat),
      ∀ (i : Nat), i < (0 : Nat) → Tw.r T i = Tw.r T i ∧ Tw.c T i = Tw.c T i ∧ Tw.x T i = Tw.x T i ∧ True]) (by kernel_rfl) (.cons (by rfl) (.cons (by rfl) (.cons (by rfl) (.cons (by rfl) (.cons (by (intro _ _; exact ⟨rfl, rfl, rfl, trivial⟩)) (.cons (by rfl) (.cons (by rfl) (.cons (by rfl) (.cons (by rfl) (.cons (by rfl) (.cons (by rfl) (.cons (by rfl) (.cons (by (intro _ _; exact ⟨rfl, rfl, rfl, trivial⟩)) .nil))))))))))))) (Nat.le_of_ble_eq_true (by kernel_rfl))

set_option maxHeartbeats 2000000 in
theorem pminI_1 (T : Tw Int) (c m : Int) : FnOk Try.prog 17 ([.nv (.one (.ptr 0 0))]) (twMI 1 T c m) (itI (T.r 0) (T.x 0) true) (twNI 0 T c m) :=
  fn_run Gt5_ok Try.func17 (orc := ⟨[true, false], []⟩) (obl := [(0 : Nat) = (0 : Nat),
      c = c,
      m = m,
      (1 : Nat) = (1 : Nat),
      ∀ (i : Nat), i < (1 : Nat) → Tw.r T i = Tw.r (twI (gTi T)) i ∧ Tw.c T i = Tw.c (twI (gTi T)) i ∧ Tw.x T i = Tw.x (twI (gTi T)) i ∧ True,
      isP (1 : Nat) (0 : Int) = true,
      (0 : Int) ≤ (0 : Int),
      Int.toNat (0 : Int) < (1 : Nat),
      (1 : Nat) ≤ (100000 : Nat),
      (0 : Nat) = (0 : Nat),
      (0 : Int) = (0 : Int),
      c = c,
      m = m,
      (1 : Nat) = (1 : Nat),
      ∀ (i : Nat), i < (1 : Nat) → Tw.r T i = Tw.r (twI (gTi T)) i ∧ Tw.c T i = Tw.c (twI (gTi T)) i ∧ Tw.x T i = Tw.x (twI (gTi T)) i ∧ True,
      ∀ (i : Nat), i < (0 : Nat) → (true && (true && (true && true))) = true,
      decide ((↑(0 : Nat) : Int) > (0 : Int)) = false,
      atR (twI (gTi T)) (1 : Nat) (0 : Int) = Tw.r T (0 : Nat),
      atX (0 : Int) (twI (gTi T)) (1 : Nat) (0 : Int) = Tw.x T (0 : Nat),
      isP (1 : Nat) (0 : Int) = true,
      c = c,
      m = m,
      (0 : Nat) = (0 : Nat),
      ∀ (i : Nat), i < (0 : Nat) → Tw.r (Tw.put (twI (gTi T)) (Int.toNat (0 : Int)) (Tw.r (twI (gTi T)) (0 : Nat)) (Tw.c (twI (gTi T)) (0 : Nat)) (Tw.x (twI (gTi T)) (0 : Nat))) i = Tw.r T i ∧ Tw.c (Tw.put (twI (gTi T)) (Int.toNat (0 : Int)) (Tw.r (twI (gTi T)) (0 : Nat)) (Tw.c (twI (gTi T)) (0 : Nat)) (Tw.x (twI (gTi T)) (0 : Nat))) i = Tw.c T i ∧ Tw.x (Tw.put (twI (gTi T)) (Int.toNat (0 : Int)) (Tw.r (twI (gTi T)) (0 : Nat)) (Tw.c (twI (gTi T)) (0 : Nat)) (Tw.x (twI (gTi T)) (0 : Nat))) i = Tw.x T i ∧ True]) (by kernel_rfl) (.cons (by rfl) (.cons (by rfl) (.cons (by rfl) (.cons (by rfl) (.cons (by (intro _ _; exact ⟨rfl, rfl, rfl, trivial⟩)) (.cons (by rfl) (.cons (by trivial) (.cons (by trivial) (.cons (by trivial) (.cons (by rfl) (.cons (by rfl) (.cons (by rfl) (.cons (by rfl) (.cons (by rfl) (.cons (by (intro _ _; exact ⟨rfl, rfl, rfl, trivial⟩)) (.cons (by trivial) (.cons (by rfl) (.cons (by rfl) (.cons (by rfl) (.cons (by rfl) (.cons (by rfl) (.cons (by rfl) (.cons (by rfl) (.cons (by omega) .nil)))))))))))))))))))))))) (Nat.le_of_ble_eq_true (by kernel_rfl))

set_option maxHeartbeats 2000000 in
theorem pminI_2 (n : Nat) (T : Tw Int) (c m : Int) (h : 1 < n) (hn : n ≤ 100000) (e1 : atR T n 0 = T.r 0) (e2 : atX 0 T n 0 = T.x 0) (e3 : isP n 0 = true) : FnOk Try.prog 17 ([.nv (.one (.ptr 0 0))]) (twMI n T c m) (itI (T.r 0) (T.x 0) true) (twNI (n - 1) ((T.put 0 (T.r (n - 1)) (T.c (n - 1)) (T.x (n - 1))).sinkL (n - 1)) c m) :=
  fn_run Gt5_ok Try.func17 (orc := ⟨[true, true], []⟩) (obl := [(0 : Nat) = (0 : Nat),
      c = c,
      m = m,
      n = n,
      ∀ (i : Nat), i < n → Tw.r T i = Tw.r (twI (gTi T)) i ∧ Tw.c T i = Tw.c (twI (gTi T)) i ∧ Tw.x T i = Tw.x (twI (gTi T)) i ∧ True,
      isP n (0 : Int) = true,
      (0 : Int) ≤ (0 : Int),
      Int.toNat (0 : Int) < n,
      n ≤ (100000 : Nat),
      (0 : Nat) = (0 : Nat),
      (0 : Int) = (0 : Int),
      c = c,
      m = m,
      n = n,
      ∀ (i : Nat), i < n → Tw.r T i = Tw.r (twI (gTi T)) i ∧ Tw.c T i = Tw.c (twI (gTi T)) i ∧ Tw.x T i = Tw.x (twI (gTi T)) i ∧ True,
      ∀ (i : Nat), i < n - (1 : Nat) → (true && (true && (true && true))) = true,
      decide ((↑(n - (1 : Nat)) : Int) > (0 : Int)) = true,
      (0 : Nat) < n - (1 : Nat),
      n - (1 : Nat) ≤ (100000 : Nat),
      (0 : Nat) = (0 : Nat),
      c = c,
      m = m,
      n - (1 : Nat) = n - (1 : Nat),
      ∀ (i : Nat), i < n - (1 : Nat) → Tw.r (Tw.put (twI (gTi T)) (Int.toNat (0 : Int)) (Tw.r (twI (gTi T)) (n - (1 : Nat))) (Tw.c (twI (gTi T)) (n - (1 : Nat))) (Tw.x (twI (gTi T)) (n - (1 : Nat)))) i = Tw.r (twI (gTi (Tw.put (twI (gTi T)) (Int.toNat (0 : Int)) (Tw.r (twI (gTi T)) (n - (1 : Nat))) (Tw.c (twI (gTi T)) (n - (1 : Nat))) (Tw.x (twI (gTi T)) (n - (1 : Nat)))))) i ∧ Tw.c (Tw.put (twI (gTi T)) (Int.toNat (0 : Int)) (Tw.r (twI (gTi T)) (n - (1 : Nat))) (Tw.c (twI (gTi T)) (n - (1 : Nat))) (Tw.x (twI (gTi T)) (n - (1 : Nat)))) i = Tw.c (twI (gTi (Tw.put (twI (gTi T)) (Int.toNat (0 : Int)) (Tw.r (twI (gTi T)) (n - (1 : Nat))) (Tw.c (twI (gTi T)) (n - (1 : Nat))) (Tw.x (twI (gTi T)) (n - (1 : Nat)))))) i ∧ Tw.x (Tw.put (twI (gTi T)) (Int.toNat (0 : Int)) (Tw.r (twI (gTi T)) (n - (1 : Nat))) (Tw.c (twI (gTi T)) (n - (1 : Nat))) (Tw.x (twI (gTi T)) (n - (1 : Nat)))) i = Tw.x (twI (gTi (Tw.put (twI (gTi T)) (Int.toNat (0 : Int)) (Tw.r (twI (gTi T)) (n - (1 : Nat))) (Tw.c (twI (gTi T)) (n - (1 : Nat))) (Tw.x (twI (gTi T)) (n - (1 : Nat)))))) i ∧ True,
      ∀ (i : Nat), i < n - (1 : Nat) → (true && (true && (true && true))) = true,
      atR (twI (gTi T)) n (0 : Int) = Tw.r T (0 : Nat),
      atX (0 : Int) (twI (gTi T)) n (0 : Int) = Tw.x T (0 : Nat),
      isP n (0 : Int) = true,
      c = c,
      m = m,
      n - (1 : Nat) = n - (1 : Nat),
      ∀ (i : Nat), i < n - (1 : Nat) → Tw.r (Tw.sinkL (twI (gTi (Tw.put (twI (gTi T)) (Int.toNat (0 : Int)) (Tw.r (twI (gTi T)) (n - (1 : Nat))) (Tw.c (twI (gTi T)) (n - (1 : Nat))) (Tw.x (twI (gTi T)) (n - (1 : Nat)))))) (n - (1 : Nat))) i = Tw.r (Tw.sinkL (Tw.put T (0 : Nat) (Tw.r T (n - (1 : Nat))) (Tw.c T (n - (1 : Nat))) (Tw.x T (n - (1 : Nat)))) (n - (1 : Nat))) i ∧ Tw.c (Tw.sinkL (twI (gTi (Tw.put (twI (gTi T)) (Int.toNat (0 : Int)) (Tw.r (twI (gTi T)) (n - (1 : Nat))) (Tw.c (twI (gTi T)) (n - (1 : Nat))) (Tw.x (twI (gTi T)) (n - (1 : Nat)))))) (n - (1 : Nat))) i = Tw.c (Tw.sinkL (Tw.put T (0 : Nat) (Tw.r T (n - (1 : Nat))) (Tw.c T (n - (1 : Nat))) (Tw.x T (n - (1 : Nat)))) (n - (1 : Nat))) i ∧ Tw.x (Tw.sinkL (twI (gTi (Tw.put (twI (gTi T)) (Int.toNat (0 : Int)) (Tw.r (twI (gTi T)) (n - (1 : Nat))) (Tw.c (twI (gTi T)) (n - (1 : Nat))) (Tw.x (twI (gTi T)) (n - (1 : Nat)))))) (n - (1 : Nat))) i = Tw.x (Tw.sinkL (Tw.put T (0 : Nat) (Tw.r T (n - (1 : Nat))) (Tw.c T (n - (1 : Nat))) (Tw.x T (n - (1 : Nat)))) (n - (1 : Nat))) i ∧ True]) (by kernel_rfl) (.cons (by rfl) (.cons (by rfl) (.cons (by rfl) (.cons (by rfl) (.cons (by (intro _ _; exact ⟨rfl, rfl, rfl, trivial⟩)) (.cons (by assumption) (.cons (by trivial) (.cons (by omega) (.cons (by assumption) (.cons (by rfl) (.cons (by rfl) (.cons (by rfl) (.cons (by rfl) (.cons (by rfl) (.cons (by (intro _ _; exact ⟨rfl, rfl, rfl, trivial⟩)) (.cons (by (intro _ _; rfl)) (.cons (by exact decide_eq_true (by omega)) (.cons (by omega) (.cons (by omega) (.cons (by rfl) (.cons (by rfl) (.cons (by rfl) (.cons (by rfl) (.cons (by (intro _ _; exact ⟨rfl, rfl, rfl, trivial⟩)) (.cons (by (intro _ _; rfl)) (.cons (by assumption) (.cons (by assumption) (.cons (by assumption) (.cons (by rfl) (.cons (by rfl) (.cons (by rfl) (.cons (by (intro _ _; exact ⟨rfl, rfl, rfl, trivial⟩)) .nil)))))))))))))))))))))))))))))))) (Nat.le_of_ble_eq_true (by kernel_rfl))

set_option maxHeartbeats 2000000 in
theorem pmaxI_3 (n : Nat) (T : Tw Int) (c m : Int) (h : 2 < n) (hn : n ≤ 100000) (e1 : atR T n (mxI n) = T.r 1) (e2 : atX 0 T n (mxI n) = T.x 1) (e3 : isP n (mxI n) = true) (hx : List.foldl (fun x y => if y < x then y else x) (1 : Int) [IntKind.wrap IntKind.i64 ((↑n : Int) - (1 : Int))] = 1) : FnOk Try.prog 18 ([.nv (.one (.ptr 0 0))]) (twMI n T c m) (itI (T.r 1) (T.x 1) true) (twNI (n - 1) ((T.put 1 (T.r (n - 1)) (T.c (n - 1)) (T.x (n - 1))).sinkH (n - 1)) c m) :=
  fn_run Gt5_ok Try.func18 (orc := ⟨[true, true], []⟩) (obl := [n ≤ (100000 : Nat),
      (0 : Nat) = (0 : Nat),
      c = c,
      m = m,
      n = n,
      ∀ (i : Nat), i < n → Tw.r T i = Tw.r (twI (gTi T)) i ∧ Tw.c T i = Tw.c (twI (gTi T)) i ∧ Tw.x T i = Tw.x (twI (gTi T)) i ∧ True,
      isP n (mxI n) = true,
      (0 : Int) ≤ List.foldl (fun x y => if y < x then y else x) (1 : Int) [IntKind.wrap IntKind.i64 ((↑n : Int) - (1 : Int))],
      Int.toNat (List.foldl (fun x y => if y < x then y else x) (1 : Int) [IntKind.wrap IntKind.i64 ((↑n : Int) - (1 : Int))]) < n,
      n ≤ (100000 : Nat),
      (0 : Nat) = (0 : Nat),
      List.foldl (fun x y => if y < x then y else x) (1 : Int) [IntKind.wrap IntKind.i64 ((↑n : Int) - (1 : Int))] = List.foldl (fun x y => if y < x then y else x) (1 : Int) [IntKind.wrap IntKind.i64 ((↑n : Int) - (1 : Int))],
      c = c,
      m = m,
      n = n,
      ∀ (i : Nat), i < n → Tw.r T i = Tw.r (twI (gTi T)) i ∧ Tw.c T i = Tw.c (twI (gTi T)) i ∧ Tw.x T i = Tw.x (twI (gTi T)) i ∧ True,
      ∀ (i : Nat), i < n - (1 : Nat) → (true && (true && (true && true))) = true,
      decide ((↑(n - (1 : Nat)) : Int) > (1 : Int)) = true,
      (0 : Nat) < n - (1 : Nat),
      n - (1 : Nat) ≤ (100000 : Nat),
      (0 : Nat) = (0 : Nat),
      c = c,
      m = m,
      n - (1 : Nat) = n - (1 : Nat),
      ∀ (i : Nat), i < n - (1 : Nat) → Tw.r (Tw.put (twI (gTi T)) (Int.toNat (List.foldl (fun x y => if y < x then y else x) (1 : Int) [IntKind.wrap IntKind.i64 ((↑n : Int) - (1 : Int))])) (Tw.r (twI (gTi T)) (n - (1 : Nat))) (Tw.c (twI (gTi T)) (n - (1 : Nat))) (Tw.x (twI (gTi T)) (n - (1 : Nat)))) i = Tw.r (twI (gTi (Tw.put (twI (gTi T)) (Int.toNat (List.foldl (fun x y => if y < x then y else x) (1 : Int) [IntKind.wrap IntKind.i64 ((↑n : Int) - (1 : Int))])) (Tw.r (twI (gTi T)) (n - (1 : Nat))) (Tw.c (twI (gTi T)) (n - (1 : Nat))) (Tw.x (twI (gTi T)) (n - (1 : Nat)))))) i ∧ Tw.c (Tw.put (twI (gTi T)) (Int.toNat (List.foldl (fun x y => if y < x then y else x) (1 : Int) [IntKind.wrap IntKind.i64 ((↑n : Int) - (1 : Int))])) (Tw.r (twI (gTi T)) (n - (1 : Nat))) (Tw.c (twI (gTi T)) (n - (1 : Nat))) (Tw.x (twI (gTi T)) (n - (1 : Nat)))) i = Tw.c (twI (gTi (Tw.put (twI (gTi T)) (Int.toNat (List.foldl (fun x y => if y < x then y else x) (1 : Int) [IntKind.wrap IntKind.i64 ((↑n : Int) - (1 : Int))])) (Tw.r (twI (gTi T)) (n - (1 : Nat))) (Tw.c (twI (gTi T)) (n - (1 : Nat))) (Tw.x (twI (gTi T)) (n - (1 : Nat)))))) i ∧ Tw.x (Tw.put (twI (gTi T)) (Int.toNat (List.foldl (fun x y => if y < x then y else x) (1 : Int) [IntKind.wrap IntKind.i64 ((↑n : Int) - (1 : Int))])) (Tw.r (twI (gTi T)) (n - (1 : Nat))) (Tw.c (twI (gTi T)) (n - (1 : Nat))) (Tw.x (twI (gTi T)) (n - (1 : Nat)))) i = Tw.x (twI (gTi (Tw.put (twI (gTi T)) (Int.toNat (List.foldl (fun x y => if y < x then y else x) (1 : Int) [IntKind.wrap IntKind.i64 ((↑n : Int) - (1 : Int))])) (Tw.r (twI (gTi T)) (n - (1 : Nat))) (Tw.c (twI (gTi T)) (n - (1 : Nat))) (Tw.x (twI (gTi T)) (n - (1 : Nat)))))) i ∧ True,
      ∀ (i : Nat), i < n - (1 : Nat) → (true && (true && (true && true))) = true,
      atR (twI (gTi T)) n (mxI n) = Tw.r T (1 : Nat),
      atX (0 : Int) (twI (gTi T)) n (mxI n) = Tw.x T (1 : Nat),
      isP n (mxI n) = true,
      c = c,
      m = m,
      n - (1 : Nat) = n - (1 : Nat),
      ∀ (i : Nat), i < n - (1 : Nat) → Tw.r (Tw.sinkH (twI (gTi (Tw.put (twI (gTi T)) (Int.toNat (List.foldl (fun x y => if y < x then y else x) (1 : Int) [IntKind.wrap IntKind.i64 ((↑n : Int) - (1 : Int))])) (Tw.r (twI (gTi T)) (n - (1 : Nat))) (Tw.c (twI (gTi T)) (n - (1 : Nat))) (Tw.x (twI (gTi T)) (n - (1 : Nat)))))) (n - (1 : Nat))) i = Tw.r (Tw.sinkH (Tw.put T (1 : Nat) (Tw.r T (n - (1 : Nat))) (Tw.c T (n - (1 : Nat))) (Tw.x T (n - (1 : Nat)))) (n - (1 : Nat))) i ∧ Tw.c (Tw.sinkH (twI (gTi (Tw.put (twI (gTi T)) (Int.toNat (List.foldl (fun x y => if y < x then y else x) (1 : Int) [IntKind.wrap IntKind.i64 ((↑n : Int) - (1 : Int))])) (Tw.r (twI (gTi T)) (n - (1 : Nat))) (Tw.c (twI (gTi T)) (n - (1 : Nat))) (Tw.x (twI (gTi T)) (n - (1 : Nat)))))) (n - (1 : Nat))) i = Tw.c (Tw.sinkH (Tw.put T (1 : Nat) (Tw.r T (n - (1 : Nat))) (Tw.c T (n - (1 : Nat))) (Tw.x T (n - (1 : Nat)))) (n - (1 : Nat))) i ∧ Tw.x (Tw.sinkH (twI (gTi (Tw.put (twI (gTi T)) (Int.toNat (List.foldl (fun x y => if y < x then y else x) (1 : Int) [IntKind.wrap IntKind.i64 ((↑n : Int) - (1 : Int))])) (Tw.r (twI (gTi T)) (n - (1 : Nat))) (Tw.c (twI (gTi T)) (n - (1 : Nat))) (Tw.x (twI (gTi T)) (n - (1 : Nat)))))) (n - (1 : Nat))) i = Tw.x (Tw.sinkH (Tw.put T (1 : Nat) (Tw.r T (n - (1 : Nat))) (Tw.c T (n - (1 : Nat))) (Tw.x T (n - (1 : Nat)))) (n - (1 : Nat))) i ∧ True]) (by kernel_rfl) (.cons (by assumption) (.cons (by rfl) (.cons (by rfl) (.cons (by rfl) (.cons (by rfl) (.cons (by (intro _ _; exact ⟨rfl, rfl, rfl, trivial⟩)) (.cons (by assumption) (.cons (by (rw [hx]; omega)) (.cons (by (rw [hx]; omega)) (.cons (by assumption) (.cons (by rfl) (.cons (by rfl) (.cons (by rfl) (.cons (by rfl) (.cons (by rfl) (.cons (by (intro _ _; exact ⟨rfl, rfl, rfl, trivial⟩)) (.cons (by (intro _ _; rfl)) (.cons (by exact decide_eq_true (by omega)) (.cons (by omega) (.cons (by omega) (.cons (by rfl) (.cons (by rfl) (.cons (by rfl) (.cons (by rfl) (.cons (by (intro _ _; exact ⟨rfl, rfl, rfl, trivial⟩)) (.cons (by (intro _ _; rfl)) (.cons (by assumption) (.cons (by assumption) (.cons (by assumption) (.cons (by rfl) (.cons (by rfl) (.cons (by rfl) (.cons (by (rw [hx]; intro _ _; exact ⟨rfl, rfl, rfl, trivial⟩)) .nil))))))))))))))))))))))))))))))))) (Nat.le_of_ble_eq_true (by kernel_rfl))

set_option maxHeartbeats 2000000 in
theorem pmaxI_0 (T : Tw Int) (c m : Int) : FnOk Try.prog 18 ([.nv (.one (.ptr 0 0))]) (twMI 0 T c m) (itI 0 0 false) (twNI 0 T c m) :=
  fn_run Gt5_ok Try.func18 (orc := ⟨[false], []⟩) (obl := [(0 : Nat) ≤ (100000 : Nat),
      (0 : Nat) = (0 : Nat),
      c = c,
      m = m,
      (0 : Nat) = (0 : Nat),
      ∀ (i : Nat), i < (0 : Nat) → Tw.r T i = Tw.r (twI (gTi T)) i ∧ Tw.c T i = Tw.c (twI (gTi T)) i ∧ Tw.x T i = Tw.x (twI (gTi T)) i ∧ True,
      isP (0 : Nat) (mxI (0 : Nat)) = false,
      atR (twI (gTi T)) (0 : Nat) (mxI (0 : Nat)) = (0 : Int),
      atX (0 : Int) (twI (gTi T)) (0 : Nat) (mxI (0 : Nat)) = (0 : Int),
      isP (0 : Nat) (mxI (0 : Nat)) = false,
      c = c,
      m = m,
      (0 : Nat) = (0 : Nat),
      ∀ (i : Nat), i < (0 : Nat) → Tw.r T i = Tw.r T i ∧ Tw.c T i = Tw.c T i ∧ Tw.x T i = Tw.x T i ∧ True]) (by kernel_rfl) (.cons (by trivial) (.cons (by rfl) (.cons (by rfl) (.cons (by rfl) (.cons (by rfl) (.cons (by (intro _ _; exact ⟨rfl, rfl, rfl, trivial⟩)) (.cons (by rfl) (.cons (by rfl) (.cons (by rfl) (.cons (by rfl) (.cons (by rfl) (.cons (by rfl) (.cons (by rfl) (.cons (by (intro _ _; exact ⟨rfl, rfl, rfl, trivial⟩)) .nil)))))))))))))) (Nat.le_of_ble_eq_true (by kernel_rfl))

set_option maxHeartbeats 2000000 in
theorem pmaxI_1 (T : Tw Int) (c m : Int) : FnOk Try.prog 18 ([.nv (.one (.ptr 0 0))]) (twMI 1 T c m) (itI (T.r 0) (T.x 0) true) (twNI 0 T c m) :=
  fn_run Gt5_ok Try.func18 (orc := ⟨[true, false], []⟩) (obl := [(1 : Nat) ≤ (100000 : Nat),
      (0 : Nat) = (0 : Nat),
      c = c,
      m = m,
      (1 : Nat) = (1 : Nat),
      ∀ (i : Nat), i < (1 : Nat) → Tw.r T i = Tw.r (twI (gTi T)) i ∧ Tw.c T i = Tw.c (twI (gTi T)) i ∧ Tw.x T i = Tw.x (twI (gTi T)) i ∧ True,
      isP (1 : Nat) (mxI (1 : Nat)) = true,
      (0 : Int) ≤ List.foldl (fun x y => if y < x then y else x) (1 : Int) [IntKind.wrap IntKind.i64 ((↑(1 : Nat) : Int) - (1 : Int))],
      Int.toNat (List.foldl (fun x y => if y < x then y else x) (1 : Int) [IntKind.wrap IntKind.i64 ((↑(1 : Nat) : Int) - (1 : Int))]) < (1 : Nat),
      (1 : Nat) ≤ (100000 : Nat),
      (0 : Nat) = (0 : Nat),
      List.foldl (fun x y => if y < x then y else x) (1 : Int) [IntKind.wrap IntKind.i64 ((↑(1 : Nat) : Int) - (1 : Int))] = List.foldl (fun x y => if y < x then y else x) (1 : Int) [IntKind.wrap IntKind.i64 ((↑(1 : Nat) : Int) - (1 : Int))],
      c = c,
      m = m,
      (1 : Nat) = (1 : Nat),
      ∀ (i : Nat), i < (1 : Nat) → Tw.r T i = Tw.r (twI (gTi T)) i ∧ Tw.c T i = Tw.c (twI (gTi T)) i ∧ Tw.x T i = Tw.x (twI (gTi T)) i ∧ True,
      ∀ (i : Nat), i < (0 : Nat) → (true && (true && (true && true))) = true,
      decide ((↑(0 : Nat) : Int) > (1 : Int)) = false,
      atR (twI (gTi T)) (1 : Nat) (mxI (1 : Nat)) = Tw.r T (0 : Nat),
      atX (0 : Int) (twI (gTi T)) (1 : Nat) (mxI (1 : Nat)) = Tw.x T (0 : Nat),
      isP (1 : Nat) (mxI (1 : Nat)) = true,
      c = c,
      m = m,
      (0 : Nat) = (0 : Nat),
      ∀ (i : Nat), i < (0 : Nat) → Tw.r (Tw.put (twI (gTi T)) (Int.toNat (List.foldl (fun x y => if y < x then y else x) (1 : Int) [IntKind.wrap IntKind.i64 ((↑(1 : Nat) : Int) - (1 : Int))])) (Tw.r (twI (gTi T)) (0 : Nat)) (Tw.c (twI (gTi T)) (0 : Nat)) (Tw.x (twI (gTi T)) (0 : Nat))) i = Tw.r T i ∧ Tw.c (Tw.put (twI (gTi T)) (Int.toNat (List.foldl (fun x y => if y < x then y else x) (1 : Int) [IntKind.wrap IntKind.i64 ((↑(1 : Nat) : Int) - (1 : Int))])) (Tw.r (twI (gTi T)) (0 : Nat)) (Tw.c (twI (gTi T)) (0 : Nat)) (Tw.x (twI (gTi T)) (0 : Nat))) i = Tw.c T i ∧ Tw.x (Tw.put (twI (gTi T)) (Int.toNat (List.foldl (fun x y => if y < x then y else x) (1 : Int) [IntKind.wrap IntKind.i64 ((↑(1 : Nat) : Int) - (1 : Int))])) (Tw.r (twI (gTi T)) (0 : Nat)) (Tw.c (twI (gTi T)) (0 : Nat)) (Tw.x (twI (gTi T)) (0 : Nat))) i = Tw.x T i ∧ True]) (by kernel_rfl) (.cons (by trivial) (.cons (by rfl) (.cons (by rfl) (.cons (by rfl) (.cons (by rfl) (.cons (by (intro _ _; exact ⟨rfl, rfl, rfl, trivial⟩)) (.cons (by rfl) (.cons (by trivial) (.cons (by trivial) (.cons (by trivial) (.cons (by rfl) (.cons (by rfl) (.cons (by rfl) (.cons (by rfl) (.cons (by rfl) (.cons (by (intro _ _; exact ⟨rfl, rfl, rfl, trivial⟩)) (.cons (by trivial) (.cons (by rfl) (.cons (by rfl) (.cons (by rfl) (.cons (by rfl) (.cons (by rfl) (.cons (by rfl) (.cons (by rfl) (.cons (by omega) .nil))))))))))))))))))))))))) (Nat.le_of_ble_eq_true (by kernel_rfl))

set_option maxHeartbeats 2000000 in
theorem pmaxI_2 (T : Tw Int) (c m : Int) : FnOk Try.prog 18 ([.nv (.one (.ptr 0 0))]) (twMI 2 T c m) (itI (T.r 1) (T.x 1) true) (twNI 1 T c m) :=
  fn_run Gt5_ok Try.func18 (orc := ⟨[true, false], []⟩) (obl := [(2 : Nat) ≤ (100000 : Nat),
      (0 : Nat) = (0 : Nat),
      c = c,
      m = m,
      (2 : Nat) = (2 : Nat),
      ∀ (i : Nat), i < (2 : Nat) → Tw.r T i = Tw.r (twI (gTi T)) i ∧ Tw.c T i = Tw.c (twI (gTi T)) i ∧ Tw.x T i = Tw.x (twI (gTi T)) i ∧ True,
      isP (2 : Nat) (mxI (2 : Nat)) = true,
      (0 : Int) ≤ List.foldl (fun x y => if y < x then y else x) (1 : Int) [IntKind.wrap IntKind.i64 ((↑(2 : Nat) : Int) - (1 : Int))],
      Int.toNat (List.foldl (fun x y => if y < x then y else x) (1 : Int) [IntKind.wrap IntKind.i64 ((↑(2 : Nat) : Int) - (1 : Int))]) < (2 : Nat),
      (2 : Nat) ≤ (100000 : Nat),
      (0 : Nat) = (0 : Nat),
      List.foldl (fun x y => if y < x then y else x) (1 : Int) [IntKind.wrap IntKind.i64 ((↑(2 : Nat) : Int) - (1 : Int))] = List.foldl (fun x y => if y < x then y else x) (1 : Int) [IntKind.wrap IntKind.i64 ((↑(2 : Nat) : Int) - (1 : Int))],
      c = c,
      m = m,
      (2 : Nat) = (2 : Nat),
      ∀ (i : Nat), i < (2 : Nat) → Tw.r T i = Tw.r (twI (gTi T)) i ∧ Tw.c T i = Tw.c (twI (gTi T)) i ∧ Tw.x T i = Tw.x (twI (gTi T)) i ∧ True,
      ∀ (i : Nat), i < (1 : Nat) → (true && (true && (true && true))) = true,
      decide ((↑(1 : Nat) : Int) > (1 : Int)) = false,
      atR (twI (gTi T)) (2 : Nat) (mxI (2 : Nat)) = Tw.r T (1 : Nat),
      atX (0 : Int) (twI (gTi T)) (2 : Nat) (mxI (2 : Nat)) = Tw.x T (1 : Nat),
      isP (2 : Nat) (mxI (2 : Nat)) = true,
      c = c,
      m = m,
      (1 : Nat) = (1 : Nat),
      ∀ (i : Nat), i < (1 : Nat) → Tw.r (Tw.put (twI (gTi T)) (Int.toNat (List.foldl (fun x y => if y < x then y else x) (1 : Int) [IntKind.wrap IntKind.i64 ((↑(2 : Nat) : Int) - (1 : Int))])) (Tw.r (twI (gTi T)) (1 : Nat)) (Tw.c (twI (gTi T)) (1 : Nat)) (Tw.x (twI (gTi T)) (1 : Nat))) i = Tw.r T i ∧ Tw.c (Tw.put (twI (gTi T)) (Int.toNat (List.foldl (fun x y => if y < x then y else x) (1 : Int) [IntKind.wrap IntKind.i64 ((↑(2 : Nat) : Int) - (1 : Int))])) (Tw.r (twI (gTi T)) (1 : Nat)) (Tw.c (twI (gTi T)) (1 : Nat)) (Tw.x (twI (gTi T)) (1 : Nat))) i = Tw.c T i ∧ Tw.x (Tw.put (twI (gTi T)) (Int.toNat (List.foldl (fun x y => if y < x then y else x) (1 : Int) [IntKind.wrap IntKind.i64 ((↑(2 : Nat) : Int) - (1 : Int))])) (Tw.r (twI (gTi T)) (1 : Nat)) (Tw.c (twI (gTi T)) (1 : Nat)) (Tw.x (twI (gTi T)) (1 : Nat))) i = Tw.x T i ∧ True]) (by kernel_rfl) (.cons (by trivial) (.cons (by rfl) (.cons (by rfl) (.cons (by rfl) (.cons (by rfl) (.cons (by (intro _ _; exact ⟨rfl, rfl, rfl, trivial⟩)) (.cons (by rfl) (.cons (by trivial) (.cons (by trivial) (.cons (by trivial) (.cons (by rfl) (.cons (by rfl) (.cons (by rfl) (.cons (by rfl) (.cons (by rfl) (.cons (by (intro _ _; exact ⟨rfl, rfl, rfl, trivial⟩)) (.cons (by trivial) (.cons (by rfl) (.cons (by rfl) (.cons (by rfl) (.cons (by rfl) (.cons (by rfl) (.cons (by rfl) (.cons (by rfl) (.cons (by (intro j hj; obtain rfl : j = 0 := (by omega); exact ⟨rfl, rfl, rfl, trivial⟩)) .nil))))))))))))))))))))))))) (Nat.le_of_ble_eq_true (by kernel_rfl))

set_option maxHeartbeats 2000000 in
theorem pmaxS_0 (T : Tw ByteArray) (c m : Int) : FnOk Try.prog 36 ([.nv (.one (.ptr 0 0))]) (twMS 0 T c m) (itS 0 ByteArray.empty false) (twNS 0 T c m) :=
  fn_run Gt5_ok Try.func36 (orc := ⟨[false], []⟩) (obl := [(0 : Nat) ≤ (100000 : Nat),
      (0 : Nat) = (0 : Nat),
      c = c,
      m = m,
      (0 : Nat) = (0 : Nat),
      ∀ (i : Nat), i < (0 : Nat) → Tw.r T i = Tw.r (twS (gTs T)) i ∧ Tw.c T i = Tw.c (twS (gTs T)) i ∧ Tw.x T i = Tw.x (twS (gTs T)) i ∧ True,
      isP (0 : Nat) (mxI (0 : Nat)) = false,
      atR (twS (gTs T)) (0 : Nat) (mxI (0 : Nat)) = (0 : Int),
      atX ByteArray.empty (twS (gTs T)) (0 : Nat) (mxI (0 : Nat)) = ByteArray.empty,
      isP (0 : Nat) (mxI (0 : Nat)) = false,
      c = c,
      m = m,
      (0 : Nat) = (0 : Nat),
      ∀ (i : Nat), i < (0 : Nat) → Tw.r T i = Tw.r T i ∧ Tw.c T i = Tw.c T i ∧ Tw.x T i = Tw.x T i ∧ True]) (by kernel_rfl) (.cons (by trivial) (.cons (by rfl) (.cons (by rfl) (.cons (by rfl) (.cons (by rfl) (.cons (by (intro _ _; exact ⟨rfl, rfl, rfl, trivial⟩)) (.cons (by rfl) (.cons (by rfl) (.cons (by rfl) (.cons (by rfl) (.cons (by rfl) (.cons (by rfl) (.cons (by rfl) (.cons (by (intro _ _; exact ⟨rfl, rfl, rfl, trivial⟩)) .nil)))))))))))))) (Nat.le_of_ble_eq_true (by kernel_rfl))

set_option maxHeartbeats 2000000 in
theorem pmaxS_1 (T : Tw ByteArray) (c m : Int) : FnOk Try.prog 36 ([.nv (.one (.ptr 0 0))]) (twMS 1 T c m) (itS (T.r 0) (T.x 0) true) (twNS 0 T c m) :=
  fn_run Gt5_ok Try.func36 (orc := ⟨[true, false], []⟩) (obl := [(1 : Nat) ≤ (100000 : Nat),
      (0 : Nat) = (0 : Nat),
      c = c,
      m = m,
      (1 : Nat) = (1 : Nat),
      ∀ (i : Nat), i < (1 : Nat) → Tw.r T i = Tw.r (twS (gTs T)) i ∧ Tw.c T i = Tw.c (twS (gTs T)) i ∧ Tw.x T i = Tw.x (twS (gTs T)) i ∧ True,
      isP (1 : Nat) (mxI (1 : Nat)) = true,
      (0 : Int) ≤ List.foldl (fun x y => if y < x then y else x) (1 : Int) [IntKind.wrap IntKind.i64 ((↑(1 : Nat) : Int) - (1 : Int))],
      Int.toNat (List.foldl (fun x y => if y < x then y else x) (1 : Int) [IntKind.wrap IntKind.i64 ((↑(1 : Nat) : Int) - (1 : Int))]) < (1 : Nat),
      (1 : Nat) ≤ (100000 : Nat),
      (0 : Nat) = (0 : Nat),
      List.foldl (fun x y => if y < x then y else x) (1 : Int) [IntKind.wrap IntKind.i64 ((↑(1 : Nat) : Int) - (1 : Int))] = List.foldl (fun x y => if y < x then y else x) (1 : Int) [IntKind.wrap IntKind.i64 ((↑(1 : Nat) : Int) - (1 : Int))],
      c = c,
      m = m,
      (1 : Nat) = (1 : Nat),
      ∀ (i : Nat), i < (1 : Nat) → Tw.r T i = Tw.r (twS (gTs T)) i ∧ Tw.c T i = Tw.c (twS (gTs T)) i ∧ Tw.x T i = Tw.x (twS (gTs T)) i ∧ True,
      ∀ (i : Nat), i < (0 : Nat) → (true && (true && (true && true))) = true,
      decide ((↑(0 : Nat) : Int) > (1 : Int)) = false,
      atR (twS (gTs T)) (1 : Nat) (mxI (1 : Nat)) = Tw.r T (0 : Nat),
      atX ByteArray.empty (twS (gTs T)) (1 : Nat) (mxI (1 : Nat)) = Tw.x T (0 : Nat),
      isP (1 : Nat) (mxI (1 : Nat)) = true,
      c = c,
      m = m,
      (0 : Nat) = (0 : Nat),
      ∀ (i : Nat), i < (0 : Nat) → Tw.r (Tw.put (twS (gTs T)) (Int.toNat (List.foldl (fun x y => if y < x then y else x) (1 : Int) [IntKind.wrap IntKind.i64 ((↑(1 : Nat) : Int) - (1 : Int))])) (Tw.r (twS (gTs T)) (0 : Nat)) (Tw.c (twS (gTs T)) (0 : Nat)) (Tw.x (twS (gTs T)) (0 : Nat))) i = Tw.r T i ∧ Tw.c (Tw.put (twS (gTs T)) (Int.toNat (List.foldl (fun x y => if y < x then y else x) (1 : Int) [IntKind.wrap IntKind.i64 ((↑(1 : Nat) : Int) - (1 : Int))])) (Tw.r (twS (gTs T)) (0 : Nat)) (Tw.c (twS (gTs T)) (0 : Nat)) (Tw.x (twS (gTs T)) (0 : Nat))) i = Tw.c T i ∧ Tw.x (Tw.put (twS (gTs T)) (Int.toNat (List.foldl (fun x y => if y < x then y else x) (1 : Int) [IntKind.wrap IntKind.i64 ((↑(1 : Nat) : Int) - (1 : Int))])) (Tw.r (twS (gTs T)) (0 : Nat)) (Tw.c (twS (gTs T)) (0 : Nat)) (Tw.x (twS (gTs T)) (0 : Nat))) i = Tw.x T i ∧ True]) (by kernel_rfl) (.cons (by trivial) (.cons (by rfl) (.cons (by rfl) (.cons (by rfl) (.cons (by rfl) (.cons (by (intro _ _; exact ⟨rfl, rfl, rfl, trivial⟩)) (.cons (by rfl) (.cons (by trivial) (.cons (by trivial) (.cons (by trivial) (.cons (by rfl) (.cons (by rfl) (.cons (by rfl) (.cons (by rfl) (.cons (by rfl) (.cons (by (intro _ _; exact ⟨rfl, rfl, rfl, trivial⟩)) (.cons (by trivial) (.cons (by rfl) (.cons (by rfl) (.cons (by rfl) (.cons (by rfl) (.cons (by rfl) (.cons (by rfl) (.cons (by rfl) (.cons (by omega) .nil))))))))))))))))))))))))) (Nat.le_of_ble_eq_true (by kernel_rfl))

set_option maxHeartbeats 2000000 in
theorem pmaxS_2 (T : Tw ByteArray) (c m : Int) : FnOk Try.prog 36 ([.nv (.one (.ptr 0 0))]) (twMS 2 T c m) (itS (T.r 1) (T.x 1) true) (twNS 1 T c m) :=
  fn_run Gt5_ok Try.func36 (orc := ⟨[true, false], []⟩) (obl := [(2 : Nat) ≤ (100000 : Nat),
      (0 : Nat) = (0 : Nat),
      c = c,
      m = m,
      (2 : Nat) = (2 : Nat),
      ∀ (i : Nat), i < (2 : Nat) → Tw.r T i = Tw.r (twS (gTs T)) i ∧ Tw.c T i = Tw.c (twS (gTs T)) i ∧ Tw.x T i = Tw.x (twS (gTs T)) i ∧ True,
      isP (2 : Nat) (mxI (2 : Nat)) = true,
      (0 : Int) ≤ List.foldl (fun x y => if y < x then y else x) (1 : Int) [IntKind.wrap IntKind.i64 ((↑(2 : Nat) : Int) - (1 : Int))],
      Int.toNat (List.foldl (fun x y => if y < x then y else x) (1 : Int) [IntKind.wrap IntKind.i64 ((↑(2 : Nat) : Int) - (1 : Int))]) < (2 : Nat),
      (2 : Nat) ≤ (100000 : Nat),
      (0 : Nat) = (0 : Nat),
      List.foldl (fun x y => if y < x then y else x) (1 : Int) [IntKind.wrap IntKind.i64 ((↑(2 : Nat) : Int) - (1 : Int))] = List.foldl (fun x y => if y < x then y else x) (1 : Int) [IntKind.wrap IntKind.i64 ((↑(2 : Nat) : Int) - (1 : Int))],
      c = c,
      m = m,
      (2 : Nat) = (2 : Nat),
      ∀ (i : Nat), i < (2 : Nat) → Tw.r T i = Tw.r (twS (gTs T)) i ∧ Tw.c T i = Tw.c (twS (gTs T)) i ∧ Tw.x T i = Tw.x (twS (gTs T)) i ∧ True,
      ∀ (i : Nat), i < (1 : Nat) → (true && (true && (true && true))) = true,
      decide ((↑(1 : Nat) : Int) > (1 : Int)) = false,
      atR (twS (gTs T)) (2 : Nat) (mxI (2 : Nat)) = Tw.r T (1 : Nat),
      atX ByteArray.empty (twS (gTs T)) (2 : Nat) (mxI (2 : Nat)) = Tw.x T (1 : Nat),
      isP (2 : Nat) (mxI (2 : Nat)) = true,
      c = c,
      m = m,
      (1 : Nat) = (1 : Nat),
      ∀ (i : Nat), i < (1 : Nat) → Tw.r (Tw.put (twS (gTs T)) (Int.toNat (List.foldl (fun x y => if y < x then y else x) (1 : Int) [IntKind.wrap IntKind.i64 ((↑(2 : Nat) : Int) - (1 : Int))])) (Tw.r (twS (gTs T)) (1 : Nat)) (Tw.c (twS (gTs T)) (1 : Nat)) (Tw.x (twS (gTs T)) (1 : Nat))) i = Tw.r T i ∧ Tw.c (Tw.put (twS (gTs T)) (Int.toNat (List.foldl (fun x y => if y < x then y else x) (1 : Int) [IntKind.wrap IntKind.i64 ((↑(2 : Nat) : Int) - (1 : Int))])) (Tw.r (twS (gTs T)) (1 : Nat)) (Tw.c (twS (gTs T)) (1 : Nat)) (Tw.x (twS (gTs T)) (1 : Nat))) i = Tw.c T i ∧ Tw.x (Tw.put (twS (gTs T)) (Int.toNat (List.foldl (fun x y => if y < x then y else x) (1 : Int) [IntKind.wrap IntKind.i64 ((↑(2 : Nat) : Int) - (1 : Int))])) (Tw.r (twS (gTs T)) (1 : Nat)) (Tw.c (twS (gTs T)) (1 : Nat)) (Tw.x (twS (gTs T)) (1 : Nat))) i = Tw.x T i ∧ True]) (by kernel_rfl) (.cons (by trivial) (.cons (by rfl) (.cons (by rfl) (.cons (by rfl) (.cons (by rfl) (.cons (by (intro _ _; exact ⟨rfl, rfl, rfl, trivial⟩)) (.cons (by rfl) (.cons (by trivial) (.cons (by trivial) (.cons (by trivial) (.cons (by rfl) (.cons (by rfl) (.cons (by rfl) (.cons (by rfl) (.cons (by rfl) (.cons (by (intro _ _; exact ⟨rfl, rfl, rfl, trivial⟩)) (.cons (by trivial) (.cons (by rfl) (.cons (by rfl) (.cons (by rfl) (.cons (by rfl) (.cons (by rfl) (.cons (by rfl) (.cons (by rfl) (.cons (by (intro j hj; obtain rfl : j = 0 := (by omega); exact ⟨rfl, rfl, rfl, trivial⟩)) .nil))))))))))))))))))))))))) (Nat.le_of_ble_eq_true (by kernel_rfl))
end Go.Proofs.Ytakpokccjgoapaa
