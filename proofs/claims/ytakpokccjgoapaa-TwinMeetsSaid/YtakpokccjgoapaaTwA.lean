/- Runs of Go code, as printed by a program: no condition beyond those that each states. -/
import Derived.Test.YtakpokccjgoapaaTwM
import Derived.Test.YtakpokccjgoapaaChecked
import Derived.KernelRfl
namespace Go.Proofs.Ytakpokccjgoapaa
set_option linter.unusedVariables false
set_option linter.unusedSimpArgs false
set_option maxRecDepth 100000
open Go.RowKit E
set_option maxHeartbeats 2000000 in
theorem low_t (p : Nat) (hp : p ≤ 100000) : PureOk Try.prog 40 ([iA p]) (iA (2 * p : Nat)) :=
  pure_run G0_ok Try.func40 (orc := ⟨[], []⟩) (obl := [IntKind.wrap IntKind.i64 ((2 : Int) * (↑p : Int)) = (↑((2 : Nat) * p) : Int)]) (by kernel_rfl) (.cons (by exact w64 (by omega) (by omega)) .nil)

set_option maxHeartbeats 2000000 in
theorem aheadI_1 (a b c d : Int) (x y : Int) (h : a < c) : PureOk Try.prog 38 ([.nv (.agg [.val (.int .u64 a), .val (.int .u64 b), .val (.int .i64 x)]), .nv (.agg [.val (.int .u64 c), .val (.int .u64 d), .val (.int .i64 y)])]) (bA true) :=
  pure_run G0_ok Try.func38 (orc := ⟨[true], []⟩) (obl := [decide (a < c) = true,
      true = true]) (by kernel_rfl) (.cons (by exact decide_eq_true (by omega)) (.cons (by rfl) .nil))

set_option maxHeartbeats 2000000 in
theorem aheadI_2 (a b c d : Int) (x y : Int) (h : ¬ a < c) (h2 : a = c) (v : Bool) (hv : decide (b < d) = v) : PureOk Try.prog 38 ([.nv (.agg [.val (.int .u64 a), .val (.int .u64 b), .val (.int .i64 x)]), .nv (.agg [.val (.int .u64 c), .val (.int .u64 d), .val (.int .i64 y)])]) (bA v) :=
  pure_run G0_ok Try.func38 (orc := ⟨[false, true], []⟩) (obl := [decide (a < c) = false,
      (a == c) = true,
      decide (b < d) = v]) (by kernel_rfl) (.cons (by exact decide_eq_false (by omega)) (.cons (by exact decide_eq_true (by omega)) (.cons (by assumption) .nil)))

set_option maxHeartbeats 2000000 in
theorem aheadI_3 (a b c d : Int) (x y : Int) (h : ¬ a < c) (h2 : a ≠ c) : PureOk Try.prog 38 ([.nv (.agg [.val (.int .u64 a), .val (.int .u64 b), .val (.int .i64 x)]), .nv (.agg [.val (.int .u64 c), .val (.int .u64 d), .val (.int .i64 y)])]) (bA false) :=
  pure_run G0_ok Try.func38 (orc := ⟨[false, false], []⟩) (obl := [decide (a < c) = false,
      (a == c) = false,
      false = false]) (by kernel_rfl) (.cons (by exact decide_eq_false (by omega)) (.cons (by exact decide_eq_false (by omega)) (.cons (by rfl) .nil)))

set_option maxHeartbeats 2000000 in
theorem highI (n p : Nat) (T : Tw Int) (c m : Int) (hp : p ≤ 100000) (h0 : 0 < n) (hn : n ≤ 100000) : FnOk Try.prog 41 ([.nv (.one (.ptr 0 0)), iA p]) ([.robox 53 [.own 1, .val (.int .u64 c), .val (.int .i64 m)], .ro 3 n (gTi T)]) (iA (hiP n p : Nat)) ([.robox 53 [.own 1, .val (.int .u64 c), .val (.int .i64 m)], .ro 3 n (gTi T)]) :=
  fn_run G0_ok Try.func41 (orc := ⟨[], []⟩) (obl := [List.foldl (fun x y => if y < x then y else x) (IntKind.wrap IntKind.i64 (IntKind.wrap IntKind.i64 ((2 : Int) * (↑p : Int)) + (1 : Int))) [IntKind.wrap IntKind.i64 ((↑n : Int) - (1 : Int))] = (↑(hiP n p) : Int),
      c = c,
      m = m,
      n = n,
      ∀ (i : Nat), i < n → Tw.r T i = Tw.r T i ∧ Tw.c T i = Tw.c T i ∧ Tw.x T i = Tw.x T i ∧ True]) (by kernel_rfl) (.cons (by exact hiMin hp h0 hn) (.cons (by rfl) (.cons (by rfl) (.cons (by rfl) (.cons (by (simp; done)) .nil))))) (Nat.le_of_ble_eq_true (by kernel_rfl))

set_option maxHeartbeats 2000000 in
theorem swapI (n i k : Nat) (T : Tw Int) (c m : Int) (hi : i < n) (hk : k < n) (hn : n ≤ 100000) : FnOk Try.prog 39 ([.nv (.one (.ptr 0 0)), iA i, iA k]) ([.box 53 [.own 1, .val (.int .u64 c), .val (.int .i64 m)], .row 67 3 n (gTi T)]) (.any) ([.box 53 [.own 1, .val (.int .u64 c), .val (.int .i64 m)], .row 67 3 n (gTi (T.swap i k))]) :=
  fn_run G0_ok Try.func39 (orc := ⟨[], []⟩) (obl := [(0 : Int) ≤ (↑k : Int),
      (↑k : Int) < (↑n : Int),
      Int.toNat (↑k : Int) < n,
      (0 : Int) ≤ (↑i : Int),
      (↑i : Int) < (↑n : Int),
      Int.toNat (↑i : Int) < n,
      (0 : Int) ≤ (↑i : Int),
      (↑i : Int) < (↑n : Int),
      Int.toNat (↑i : Int) < n,
      (0 : Int) ≤ (↑k : Int),
      (↑k : Int) < (↑n : Int),
      Int.toNat (↑k : Int) < n,
      c = c,
      m = m,
      n = n,
      ∀ (i_1 : Nat), i_1 < n → AllT (leAts ([(nat_lit 1, Bd.same (nat_lit 1)), (nat_lit 0, Bd.same (nat_lit 0))] ++ [] ++ ([] ++ ([((1 : Nat), Bd.same (1 : Nat))] ++ ([] ++ ([] ++ [])) ++ []) ++ ([] ++ [] ++ []))) (2 : Nat) (if i_1 = Int.toNat (↑k : Int) then List.take (0 : Nat) (if Int.toNat (↑k : Int) = Int.toNat (↑i : Int) then List.take (0 : Nat) (gTi T (Int.toNat (↑i : Int))) ++ [At.val (Value.int IntKind.u64 (Tw.r T (Int.toNat (↑k : Int)))), At.val (Value.int IntKind.u64 (Tw.c T (Int.toNat (↑k : Int)))), At.val (Value.int IntKind.i64 (Tw.x T (Int.toNat (↑k : Int))))] ++ List.drop (3 : Nat) (gTi T (Int.toNat (↑i : Int))) else gTi T (Int.toNat (↑k : Int))) ++ [At.val (Value.int IntKind.u64 (Tw.r T (Int.toNat (↑i : Int)))), At.val (Value.int IntKind.u64 (Tw.c T (Int.toNat (↑i : Int)))), At.val (Value.int IntKind.i64 (Tw.x T (Int.toNat (↑i : Int))))] ++ List.drop (3 : Nat) (if Int.toNat (↑k : Int) = Int.toNat (↑i : Int) then List.take (0 : Nat) (gTi T (Int.toNat (↑i : Int))) ++ [At.val (Value.int IntKind.u64 (Tw.r T (Int.toNat (↑k : Int)))), At.val (Value.int IntKind.u64 (Tw.c T (Int.toNat (↑k : Int)))), At.val (Value.int IntKind.i64 (Tw.x T (Int.toNat (↑k : Int))))] ++ List.drop (3 : Nat) (gTi T (Int.toNat (↑i : Int))) else gTi T (Int.toNat (↑k : Int))) else if i_1 = Int.toNat (↑i : Int) then List.take (0 : Nat) (gTi T (Int.toNat (↑i : Int))) ++ [At.val (Value.int IntKind.u64 (Tw.r T (Int.toNat (↑k : Int)))), At.val (Value.int IntKind.u64 (Tw.c T (Int.toNat (↑k : Int)))), At.val (Value.int IntKind.i64 (Tw.x T (Int.toNat (↑k : Int))))] ++ List.drop (3 : Nat) (gTi T (Int.toNat (↑i : Int))) else gTi T i_1) (gTi (Tw.swap T i k) i_1))]) (by kernel_rfl) (.cons (by omega) (.cons (by omega) (.cons (by assumption) (.cons (by omega) (.cons (by omega) (.cons (by assumption) (.cons (by omega) (.cons (by omega) (.cons (by assumption) (.cons (by omega) (.cons (by omega) (.cons (by assumption) (.cons (by rfl) (.cons (by rfl) (.cons (by rfl) (.cons (by (intro j _; simp only [Int.toNat_natCast]; by_cases e1 : j = k <;> by_cases e2 : j = i <;> by_cases e3 : k = i <;> simp_all [Tw.swap, leAts, leAt, AllT])) .nil)))))))))))))))) (Nat.le_of_ble_eq_true (by kernel_rfl))

set_option maxHeartbeats 2000000 in
theorem aheadS_1 (a b c d : Int) (x y : ByteArray) (h : a < c) : PureOk Try.prog 42 ([.nv (.agg [.val (.int .u64 a), .val (.int .u64 b), .val (.string x)]), .nv (.agg [.val (.int .u64 c), .val (.int .u64 d), .val (.string y)])]) (bA true) :=
  pure_run G0_ok Try.func42 (orc := ⟨[true], []⟩) (obl := [decide (a < c) = true,
      true = true]) (by kernel_rfl) (.cons (by exact decide_eq_true (by omega)) (.cons (by rfl) .nil))

set_option maxHeartbeats 2000000 in
theorem aheadS_2 (a b c d : Int) (x y : ByteArray) (h : ¬ a < c) (h2 : a = c) (v : Bool) (hv : decide (b < d) = v) : PureOk Try.prog 42 ([.nv (.agg [.val (.int .u64 a), .val (.int .u64 b), .val (.string x)]), .nv (.agg [.val (.int .u64 c), .val (.int .u64 d), .val (.string y)])]) (bA v) :=
  pure_run G0_ok Try.func42 (orc := ⟨[false, true], []⟩) (obl := [decide (a < c) = false,
      (a == c) = true,
      decide (b < d) = v]) (by kernel_rfl) (.cons (by exact decide_eq_false (by omega)) (.cons (by exact decide_eq_true (by omega)) (.cons (by assumption) .nil)))

set_option maxHeartbeats 2000000 in
theorem aheadS_3 (a b c d : Int) (x y : ByteArray) (h : ¬ a < c) (h2 : a ≠ c) : PureOk Try.prog 42 ([.nv (.agg [.val (.int .u64 a), .val (.int .u64 b), .val (.string x)]), .nv (.agg [.val (.int .u64 c), .val (.int .u64 d), .val (.string y)])]) (bA false) :=
  pure_run G0_ok Try.func42 (orc := ⟨[false, false], []⟩) (obl := [decide (a < c) = false,
      (a == c) = false,
      false = false]) (by kernel_rfl) (.cons (by exact decide_eq_false (by omega)) (.cons (by exact decide_eq_false (by omega)) (.cons (by rfl) .nil)))

set_option maxHeartbeats 2000000 in
theorem highS (n p : Nat) (T : Tw ByteArray) (c m : Int) (hp : p ≤ 100000) (h0 : 0 < n) (hn : n ≤ 100000) : FnOk Try.prog 44 ([.nv (.one (.ptr 0 0)), iA p]) ([.robox 71 [.own 1, .val (.int .u64 c), .val (.int .i64 m)], .ro 3 n (gTs T)]) (iA (hiP n p : Nat)) ([.robox 71 [.own 1, .val (.int .u64 c), .val (.int .i64 m)], .ro 3 n (gTs T)]) :=
  fn_run G0_ok Try.func44 (orc := ⟨[], []⟩) (obl := [List.foldl (fun x y => if y < x then y else x) (IntKind.wrap IntKind.i64 (IntKind.wrap IntKind.i64 ((2 : Int) * (↑p : Int)) + (1 : Int))) [IntKind.wrap IntKind.i64 ((↑n : Int) - (1 : Int))] = (↑(hiP n p) : Int),
      c = c,
      m = m,
      n = n,
      ∀ (i : Nat), i < n → Tw.r T i = Tw.r T i ∧ Tw.c T i = Tw.c T i ∧ Tw.x T i = Tw.x T i ∧ True]) (by kernel_rfl) (.cons (by exact hiMin hp h0 hn) (.cons (by rfl) (.cons (by rfl) (.cons (by rfl) (.cons (by (simp; done)) .nil))))) (Nat.le_of_ble_eq_true (by kernel_rfl))

set_option maxHeartbeats 2000000 in
theorem swapS (n i k : Nat) (T : Tw ByteArray) (c m : Int) (hi : i < n) (hk : k < n) (hn : n ≤ 100000) : FnOk Try.prog 43 ([.nv (.one (.ptr 0 0)), iA i, iA k]) ([.box 71 [.own 1, .val (.int .u64 c), .val (.int .i64 m)], .row 73 3 n (gTs T)]) (.any) ([.box 71 [.own 1, .val (.int .u64 c), .val (.int .i64 m)], .row 73 3 n (gTs (T.swap i k))]) :=
  fn_run G0_ok Try.func43 (orc := ⟨[], []⟩) (obl := [(0 : Int) ≤ (↑k : Int),
      (↑k : Int) < (↑n : Int),
      Int.toNat (↑k : Int) < n,
      (0 : Int) ≤ (↑i : Int),
      (↑i : Int) < (↑n : Int),
      Int.toNat (↑i : Int) < n,
      (0 : Int) ≤ (↑i : Int),
      (↑i : Int) < (↑n : Int),
      Int.toNat (↑i : Int) < n,
      (0 : Int) ≤ (↑k : Int),
      (↑k : Int) < (↑n : Int),
      Int.toNat (↑k : Int) < n,
      c = c,
      m = m,
      n = n,
      ∀ (i_1 : Nat), i_1 < n → AllT (leAts ([(nat_lit 1, Bd.same (nat_lit 1)), (nat_lit 0, Bd.same (nat_lit 0))] ++ [] ++ ([] ++ ([((1 : Nat), Bd.same (1 : Nat))] ++ ([] ++ ([] ++ [])) ++ []) ++ ([] ++ [] ++ []))) (2 : Nat) (if i_1 = Int.toNat (↑k : Int) then List.take (0 : Nat) (if Int.toNat (↑k : Int) = Int.toNat (↑i : Int) then List.take (0 : Nat) (gTs T (Int.toNat (↑i : Int))) ++ [At.val (Value.int IntKind.u64 (Tw.r T (Int.toNat (↑k : Int)))), At.val (Value.int IntKind.u64 (Tw.c T (Int.toNat (↑k : Int)))), At.val (Value.string (Tw.x T (Int.toNat (↑k : Int))))] ++ List.drop (3 : Nat) (gTs T (Int.toNat (↑i : Int))) else gTs T (Int.toNat (↑k : Int))) ++ [At.val (Value.int IntKind.u64 (Tw.r T (Int.toNat (↑i : Int)))), At.val (Value.int IntKind.u64 (Tw.c T (Int.toNat (↑i : Int)))), At.val (Value.string (Tw.x T (Int.toNat (↑i : Int))))] ++ List.drop (3 : Nat) (if Int.toNat (↑k : Int) = Int.toNat (↑i : Int) then List.take (0 : Nat) (gTs T (Int.toNat (↑i : Int))) ++ [At.val (Value.int IntKind.u64 (Tw.r T (Int.toNat (↑k : Int)))), At.val (Value.int IntKind.u64 (Tw.c T (Int.toNat (↑k : Int)))), At.val (Value.string (Tw.x T (Int.toNat (↑k : Int))))] ++ List.drop (3 : Nat) (gTs T (Int.toNat (↑i : Int))) else gTs T (Int.toNat (↑k : Int))) else if i_1 = Int.toNat (↑i : Int) then List.take (0 : Nat) (gTs T (Int.toNat (↑i : Int))) ++ [At.val (Value.int IntKind.u64 (Tw.r T (Int.toNat (↑k : Int)))), At.val (Value.int IntKind.u64 (Tw.c T (Int.toNat (↑k : Int)))), At.val (Value.string (Tw.x T (Int.toNat (↑k : Int))))] ++ List.drop (3 : Nat) (gTs T (Int.toNat (↑i : Int))) else gTs T i_1) (gTs (Tw.swap T i k) i_1))]) (by kernel_rfl) (.cons (by omega) (.cons (by omega) (.cons (by assumption) (.cons (by omega) (.cons (by omega) (.cons (by assumption) (.cons (by omega) (.cons (by omega) (.cons (by assumption) (.cons (by omega) (.cons (by omega) (.cons (by assumption) (.cons (by rfl) (.cons (by rfl) (.cons (by rfl) (.cons (by (intro j _; simp only [Int.toNat_natCast]; by_cases e1 : j = k <;> by_cases e2 : j = i <;> by_cases e3 : k = i <;> simp_all [Tw.swap, leAts, leAt, AllT])) .nil)))))))))))))))) (Nat.le_of_ble_eq_true (by kernel_rfl))
end Go.Proofs.Ytakpokccjgoapaa
