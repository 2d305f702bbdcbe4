/- Runs of Go code, as printed by a program: no condition beyond those that each states. -/
import Derived.Test.YtakpokccjgoapaaTwB
import Derived.Test.YtakpokccjgoapaaChecked
import Derived.KernelRfl
namespace Go.Proofs.Ytakpokccjgoapaa
set_option linter.unusedVariables false
set_option linter.unusedSimpArgs false
set_option maxRecDepth 100000
open Go.RowKit E
set_option maxHeartbeats 2000000 in
theorem lenI (n : Nat) (T : Tw Int) (c m : Int) : FnOk Try.prog 15 ([.nv (.one (.ptr 0 0))]) (twRI n T c m) (iA n) (twRI n T c m) :=
  fn_run Gt0_ok Try.func15 (orc := ⟨[false], []⟩) (obl := [false = false,
      (↑n : Int) = (↑n : Int),
      c = c,
      m = m,
      n = n,
      ∀ (i : Nat), i < n → Tw.r T i = Tw.r T i ∧ Tw.c T i = Tw.c T i ∧ Tw.x T i = Tw.x T i ∧ True]) (by kernel_rfl) (.cons (by rfl) (.cons (by rfl) (.cons (by rfl) (.cons (by rfl) (.cons (by rfl) (.cons (by (intro _ _; exact ⟨rfl, rfl, rfl, trivial⟩)) .nil)))))) (Nat.le_of_ble_eq_true (by kernel_rfl))

set_option maxHeartbeats 2000000 in
theorem newI_a (m : Int) (h : m < 1) : FnOk Try.prog 7 ([iA m]) ([]) (.tup [.one (.val (.pointer none)), .one (.val (.int .i64 25))]) ([]) :=
  fn_run Gt0_ok Try.func7 (orc := ⟨[true, true], []⟩) (obl := [decide (m < (1 : Int)) = true,
      true = true,
      Value.pointer none = Value.pointer none,
      (25 : Int) = (25 : Int)]) (by kernel_rfl) (.cons (by exact decide_eq_true (by omega)) (.cons (by rfl) (.cons (by rfl) (.cons (by rfl) .nil)))) (Nat.le_of_ble_eq_true (by kernel_rfl))

set_option maxHeartbeats 2000000 in
theorem newI_b (m : Int) (h : 4096 < m) : FnOk Try.prog 7 ([iA m]) ([]) (.tup [.one (.val (.pointer none)), .one (.val (.int .i64 25))]) ([]) :=
  fn_run Gt0_ok Try.func7 (orc := ⟨[false, true], []⟩) (obl := [decide (m < (1 : Int)) = false,
      decide (m > (4096 : Int)) = true,
      Value.pointer none = Value.pointer none,
      (25 : Int) = (25 : Int)]) (by kernel_rfl) (.cons (by exact decide_eq_false (by omega)) (.cons (by exact decide_eq_true (by omega)) (.cons (by rfl) (.cons (by rfl) .nil)))) (Nat.le_of_ble_eq_true (by kernel_rfl))

set_option maxHeartbeats 2000000 in
theorem newI_c (m : Int) (h : 1 ≤ m) (h2 : m ≤ 4096) (T : Tw Int) : FnOk Try.prog 7 ([iA m]) ([]) (.tup [.one (.ptr 0 0), .one (.val (.int .i64 0))]) ([.box 53 [.own 1, .val (.int .u64 0), .val (.int .i64 m)], .row 67 3 0 (gTi T)]) :=
  fn_run Gt0_ok Try.func7 (orc := ⟨[false, false], []⟩) (obl := [decide (m < (1 : Int)) = false,
      decide (m > (4096 : Int)) = false,
      (0 : Nat) = (0 : Nat),
      (0 : Int) = (0 : Int),
      (0 : Int) = (0 : Int),
      m = m,
      (0 : Nat) = (0 : Nat)]) (by kernel_rfl) (.cons (by exact decide_eq_false (by omega)) (.cons (by exact decide_eq_false (by omega)) (.cons (by rfl) (.cons (by rfl) (.cons (by rfl) (.cons (by rfl) (.cons (by rfl) .nil))))))) (Nat.le_of_ble_eq_true (by kernel_rfl))

set_option maxHeartbeats 2000000 in
theorem cutI (n i : Nat) (T : Tw Int) (c m : Int) (hi : i < n) (hn : n ≤ 100000) (e : IntKind.wrap IntKind.i64 ((n : Int) - 1) = (n - 1 : Nat)) : FnOk Try.prog 32 ([.nv (.one (.ptr 0 0)), iA i]) (twMI n T c m) (.any) ([.box 53 [.own 2, .val (.int .u64 c), .val (.int .i64 m)], .gone, .row 67 3 (n - 1) (gTi (T.put i (T.r (n - 1)) (T.c (n - 1)) (T.x (n - 1))))]) :=
  fn_run Gt0_ok Try.func32 (orc := ⟨[], []⟩) (obl := [(0 : Int) ≤ IntKind.wrap IntKind.i64 ((↑n : Int) - (1 : Int)),
      IntKind.wrap IntKind.i64 ((↑n : Int) - (1 : Int)) < (↑n : Int),
      Int.toNat (IntKind.wrap IntKind.i64 ((↑n : Int) - (1 : Int))) < n,
      (0 : Int) ≤ (↑i : Int),
      (↑i : Int) < (↑n : Int),
      Int.toNat (↑i : Int) < n,
      (0 : Int) ≤ IntKind.wrap IntKind.i64 ((↑n : Int) - (1 : Int)),
      IntKind.wrap IntKind.i64 ((↑n : Int) - (1 : Int)) < (↑n : Int),
      Int.toNat (IntKind.wrap IntKind.i64 ((↑n : Int) - (1 : Int))) < n,
      (0 : Int) ≤ Prod.snd (IntKind.i64, IntKind.wrap IntKind.i64 ((↑n : Int) - (1 : Int))),
      Prod.snd (IntKind.i64, IntKind.wrap IntKind.i64 ((↑n : Int) - (1 : Int))) ≤ (↑n : Int),
      (0 : Nat) = (0 : Nat),
      Int.toNat (Prod.snd (IntKind.i64, IntKind.wrap IntKind.i64 ((↑n : Int) - (1 : Int)))) = Int.toNat (Prod.snd (IntKind.i64, IntKind.wrap IntKind.i64 ((↑n : Int) - (1 : Int)))),
      c = c,
      m = m,
      Int.toNat (Prod.snd (IntKind.i64, IntKind.wrap IntKind.i64 ((↑n : Int) - (1 : Int)))) = n - (1 : Nat),
      Int.toNat (Prod.snd (IntKind.i64, IntKind.wrap IntKind.i64 ((↑n : Int) - (1 : Int)))) ≤ n,
      ∀ (i_1 : Nat), i_1 < Int.toNat (Prod.snd (IntKind.i64, IntKind.wrap IntKind.i64 ((↑n : Int) - (1 : Int)))) → AllT (leAts ([(nat_lit 1, Bd.same (nat_lit 1)), (nat_lit 0, Bd.same (nat_lit 0))] ++ [] ++ ([] ++ ([((2 : Nat), Bd.cut (1 : Nat) (Int.toNat (Prod.snd (IntKind.i64, IntKind.wrap IntKind.i64 ((↑n : Int) - (1 : Int))))))] ++ ([] ++ ([] ++ [])) ++ []) ++ ([] ++ []))) (3 : Nat) (if i_1 = Int.toNat (IntKind.wrap IntKind.i64 ((↑n : Int) - (1 : Int))) then List.take (0 : Nat) (if Int.toNat (IntKind.wrap IntKind.i64 ((↑n : Int) - (1 : Int))) = Int.toNat (↑i : Int) then List.take (0 : Nat) (gTi T (Int.toNat (↑i : Int))) ++ [At.val (Value.int IntKind.u64 (Tw.r T (Int.toNat (IntKind.wrap IntKind.i64 ((↑n : Int) - (1 : Int)))))), At.val (Value.int IntKind.u64 (Tw.c T (Int.toNat (IntKind.wrap IntKind.i64 ((↑n : Int) - (1 : Int)))))), At.val (Value.int IntKind.i64 (Tw.x T (Int.toNat (IntKind.wrap IntKind.i64 ((↑n : Int) - (1 : Int))))))] ++ List.drop (3 : Nat) (gTi T (Int.toNat (↑i : Int))) else gTi T (Int.toNat (IntKind.wrap IntKind.i64 ((↑n : Int) - (1 : Int))))) ++ [At.val (Value.int IntKind.u64 (0 : Int)), At.val (Value.int IntKind.u64 (0 : Int)), At.val (Value.int IntKind.i64 (0 : Int))] ++ List.drop (3 : Nat) (if Int.toNat (IntKind.wrap IntKind.i64 ((↑n : Int) - (1 : Int))) = Int.toNat (↑i : Int) then List.take (0 : Nat) (gTi T (Int.toNat (↑i : Int))) ++ [At.val (Value.int IntKind.u64 (Tw.r T (Int.toNat (IntKind.wrap IntKind.i64 ((↑n : Int) - (1 : Int)))))), At.val (Value.int IntKind.u64 (Tw.c T (Int.toNat (IntKind.wrap IntKind.i64 ((↑n : Int) - (1 : Int)))))), At.val (Value.int IntKind.i64 (Tw.x T (Int.toNat (IntKind.wrap IntKind.i64 ((↑n : Int) - (1 : Int))))))] ++ List.drop (3 : Nat) (gTi T (Int.toNat (↑i : Int))) else gTi T (Int.toNat (IntKind.wrap IntKind.i64 ((↑n : Int) - (1 : Int))))) else if i_1 = Int.toNat (↑i : Int) then List.take (0 : Nat) (gTi T (Int.toNat (↑i : Int))) ++ [At.val (Value.int IntKind.u64 (Tw.r T (Int.toNat (IntKind.wrap IntKind.i64 ((↑n : Int) - (1 : Int)))))), At.val (Value.int IntKind.u64 (Tw.c T (Int.toNat (IntKind.wrap IntKind.i64 ((↑n : Int) - (1 : Int)))))), At.val (Value.int IntKind.i64 (Tw.x T (Int.toNat (IntKind.wrap IntKind.i64 ((↑n : Int) - (1 : Int))))))] ++ List.drop (3 : Nat) (gTi T (Int.toNat (↑i : Int))) else gTi T i_1) (gTi (Tw.put T i (Tw.r T (n - (1 : Nat))) (Tw.c T (n - (1 : Nat))) (Tw.x T (n - (1 : Nat)))) i_1))]) (by kernel_rfl) (.cons (by (simp only [e]; omega)) (.cons (by (simp only [e]; omega)) (.cons (by (simp only [e]; omega)) (.cons (by omega) (.cons (by omega) (.cons (by assumption) (.cons (by (simp only [e]; omega)) (.cons (by (simp only [e]; omega)) (.cons (by (simp only [e]; omega)) (.cons (by (simp only [e]; omega)) (.cons (by (simp only [e]; omega)) (.cons (by rfl) (.cons (by rfl) (.cons (by rfl) (.cons (by rfl) (.cons (by (simp only [e]; omega)) (.cons (by (simp only [e]; omega)) (.cons (by (intro j hj; replace hj : j < n - 1 := (by simpa only [e, Int.toNat_natCast] using hj); simp only [e, Int.toNat_natCast]; rw [if_neg (show ¬ j = n - 1 by omega)]; by_cases e2 : j = i <;> simp_all [Tw.put, leAts, leAt, AllT])) .nil)))))))))))))))))) (Nat.le_of_ble_eq_true (by kernel_rfl))

set_option maxHeartbeats 2000000 in
theorem lenI_0 (z : Nat) : FnOk Try.prog 15 ([.nv (.one (.val (.pointer none)))]) ([]) (iA 0) ([]) :=
  fn_run Gt0_ok Try.func15 (orc := ⟨[true], []⟩) (obl := [true = true,
      (0 : Int) = (0 : Int)]) (by kernel_rfl) (.cons (by rfl) (.cons (by rfl) .nil)) (Nat.le_of_ble_eq_true (by kernel_rfl))

set_option maxHeartbeats 2000000 in
theorem lenS (n : Nat) (T : Tw ByteArray) (c m : Int) : FnOk Try.prog 25 ([.nv (.one (.ptr 0 0))]) (twRS n T c m) (iA n) (twRS n T c m) :=
  fn_run Gt0_ok Try.func25 (orc := ⟨[false], []⟩) (obl := [false = false,
      (↑n : Int) = (↑n : Int),
      c = c,
      m = m,
      n = n,
      ∀ (i : Nat), i < n → Tw.r T i = Tw.r T i ∧ Tw.c T i = Tw.c T i ∧ Tw.x T i = Tw.x T i ∧ True]) (by kernel_rfl) (.cons (by rfl) (.cons (by rfl) (.cons (by rfl) (.cons (by rfl) (.cons (by rfl) (.cons (by (intro _ _; exact ⟨rfl, rfl, rfl, trivial⟩)) .nil)))))) (Nat.le_of_ble_eq_true (by kernel_rfl))

set_option maxHeartbeats 2000000 in
theorem newS_a (m : Int) (h : m < 1) : FnOk Try.prog 21 ([iA m]) ([]) (.tup [.one (.val (.pointer none)), .one (.val (.int .i64 25))]) ([]) :=
  fn_run Gt0_ok Try.func21 (orc := ⟨[true, true], []⟩) (obl := [decide (m < (1 : Int)) = true,
      true = true,
      Value.pointer none = Value.pointer none,
      (25 : Int) = (25 : Int)]) (by kernel_rfl) (.cons (by exact decide_eq_true (by omega)) (.cons (by rfl) (.cons (by rfl) (.cons (by rfl) .nil)))) (Nat.le_of_ble_eq_true (by kernel_rfl))

set_option maxHeartbeats 2000000 in
theorem newS_b (m : Int) (h : 4096 < m) : FnOk Try.prog 21 ([iA m]) ([]) (.tup [.one (.val (.pointer none)), .one (.val (.int .i64 25))]) ([]) :=
  fn_run Gt0_ok Try.func21 (orc := ⟨[false, true], []⟩) (obl := [decide (m < (1 : Int)) = false,
      decide (m > (4096 : Int)) = true,
      Value.pointer none = Value.pointer none,
      (25 : Int) = (25 : Int)]) (by kernel_rfl) (.cons (by exact decide_eq_false (by omega)) (.cons (by exact decide_eq_true (by omega)) (.cons (by rfl) (.cons (by rfl) .nil)))) (Nat.le_of_ble_eq_true (by kernel_rfl))

set_option maxHeartbeats 2000000 in
theorem newS_c (m : Int) (h : 1 ≤ m) (h2 : m ≤ 4096) (T : Tw ByteArray) : FnOk Try.prog 21 ([iA m]) ([]) (.tup [.one (.ptr 0 0), .one (.val (.int .i64 0))]) ([.box 71 [.own 1, .val (.int .u64 0), .val (.int .i64 m)], .row 73 3 0 (gTs T)]) :=
  fn_run Gt0_ok Try.func21 (orc := ⟨[false, false], []⟩) (obl := [decide (m < (1 : Int)) = false,
      decide (m > (4096 : Int)) = false,
      (0 : Nat) = (0 : Nat),
      (0 : Int) = (0 : Int),
      (0 : Int) = (0 : Int),
      m = m,
      (0 : Nat) = (0 : Nat)]) (by kernel_rfl) (.cons (by exact decide_eq_false (by omega)) (.cons (by exact decide_eq_false (by omega)) (.cons (by rfl) (.cons (by rfl) (.cons (by rfl) (.cons (by rfl) (.cons (by rfl) .nil))))))) (Nat.le_of_ble_eq_true (by kernel_rfl))

set_option maxHeartbeats 2000000 in
theorem cutS (n i : Nat) (T : Tw ByteArray) (c m : Int) (hi : i < n) (hn : n ≤ 100000) (e : IntKind.wrap IntKind.i64 ((n : Int) - 1) = (n - 1 : Nat)) : FnOk Try.prog 45 ([.nv (.one (.ptr 0 0)), iA i]) (twMS n T c m) (.any) ([.box 71 [.own 2, .val (.int .u64 c), .val (.int .i64 m)], .gone, .row 73 3 (n - 1) (gTs (T.put i (T.r (n - 1)) (T.c (n - 1)) (T.x (n - 1))))]) :=
  fn_run Gt0_ok Try.func45 (orc := ⟨[], []⟩) (obl := [(0 : Int) ≤ IntKind.wrap IntKind.i64 ((↑n : Int) - (1 : Int)),
      IntKind.wrap IntKind.i64 ((↑n : Int) - (1 : Int)) < (↑n : Int),
      Int.toNat (IntKind.wrap IntKind.i64 ((↑n : Int) - (1 : Int))) < n,
      (0 : Int) ≤ (↑i : Int),
      (↑i : Int) < (↑n : Int),
      Int.toNat (↑i : Int) < n,
      (0 : Int) ≤ IntKind.wrap IntKind.i64 ((↑n : Int) - (1 : Int)),
      IntKind.wrap IntKind.i64 ((↑n : Int) - (1 : Int)) < (↑n : Int),
      Int.toNat (IntKind.wrap IntKind.i64 ((↑n : Int) - (1 : Int))) < n,
      (0 : Int) ≤ Prod.snd (IntKind.i64, IntKind.wrap IntKind.i64 ((↑n : Int) - (1 : Int))),
      Prod.snd (IntKind.i64, IntKind.wrap IntKind.i64 ((↑n : Int) - (1 : Int))) ≤ (↑n : Int),
      (0 : Nat) = (0 : Nat),
      Int.toNat (Prod.snd (IntKind.i64, IntKind.wrap IntKind.i64 ((↑n : Int) - (1 : Int)))) = Int.toNat (Prod.snd (IntKind.i64, IntKind.wrap IntKind.i64 ((↑n : Int) - (1 : Int)))),
      c = c,
      m = m,
      Int.toNat (Prod.snd (IntKind.i64, IntKind.wrap IntKind.i64 ((↑n : Int) - (1 : Int)))) = n - (1 : Nat),
      Int.toNat (Prod.snd (IntKind.i64, IntKind.wrap IntKind.i64 ((↑n : Int) - (1 : Int)))) ≤ n,
      ∀ (i_1 : Nat), i_1 < Int.toNat (Prod.snd (IntKind.i64, IntKind.wrap IntKind.i64 ((↑n : Int) - (1 : Int)))) → AllT (leAts ([(nat_lit 1, Bd.same (nat_lit 1)), (nat_lit 0, Bd.same (nat_lit 0))] ++ [] ++ ([] ++ ([((2 : Nat), Bd.cut (1 : Nat) (Int.toNat (Prod.snd (IntKind.i64, IntKind.wrap IntKind.i64 ((↑n : Int) - (1 : Int))))))] ++ ([] ++ ([] ++ [])) ++ []) ++ ([] ++ []))) (3 : Nat) (if i_1 = Int.toNat (IntKind.wrap IntKind.i64 ((↑n : Int) - (1 : Int))) then List.take (0 : Nat) (if Int.toNat (IntKind.wrap IntKind.i64 ((↑n : Int) - (1 : Int))) = Int.toNat (↑i : Int) then List.take (0 : Nat) (gTs T (Int.toNat (↑i : Int))) ++ [At.val (Value.int IntKind.u64 (Tw.r T (Int.toNat (IntKind.wrap IntKind.i64 ((↑n : Int) - (1 : Int)))))), At.val (Value.int IntKind.u64 (Tw.c T (Int.toNat (IntKind.wrap IntKind.i64 ((↑n : Int) - (1 : Int)))))), At.val (Value.string (Tw.x T (Int.toNat (IntKind.wrap IntKind.i64 ((↑n : Int) - (1 : Int))))))] ++ List.drop (3 : Nat) (gTs T (Int.toNat (↑i : Int))) else gTs T (Int.toNat (IntKind.wrap IntKind.i64 ((↑n : Int) - (1 : Int))))) ++ [At.val (Value.int IntKind.u64 (0 : Int)), At.val (Value.int IntKind.u64 (0 : Int)), At.val (Value.string { data := #[] })] ++ List.drop (3 : Nat) (if Int.toNat (IntKind.wrap IntKind.i64 ((↑n : Int) - (1 : Int))) = Int.toNat (↑i : Int) then List.take (0 : Nat) (gTs T (Int.toNat (↑i : Int))) ++ [At.val (Value.int IntKind.u64 (Tw.r T (Int.toNat (IntKind.wrap IntKind.i64 ((↑n : Int) - (1 : Int)))))), At.val (Value.int IntKind.u64 (Tw.c T (Int.toNat (IntKind.wrap IntKind.i64 ((↑n : Int) - (1 : Int)))))), At.val (Value.string (Tw.x T (Int.toNat (IntKind.wrap IntKind.i64 ((↑n : Int) - (1 : Int))))))] ++ List.drop (3 : Nat) (gTs T (Int.toNat (↑i : Int))) else gTs T (Int.toNat (IntKind.wrap IntKind.i64 ((↑n : Int) - (1 : Int))))) else if i_1 = Int.toNat (↑i : Int) then List.take (0 : Nat) (gTs T (Int.toNat (↑i : Int))) ++ [At.val (Value.int IntKind.u64 (Tw.r T (Int.toNat (IntKind.wrap IntKind.i64 ((↑n : Int) - (1 : Int)))))), At.val (Value.int IntKind.u64 (Tw.c T (Int.toNat (IntKind.wrap IntKind.i64 ((↑n : Int) - (1 : Int)))))), At.val (Value.string (Tw.x T (Int.toNat (IntKind.wrap IntKind.i64 ((↑n : Int) - (1 : Int))))))] ++ List.drop (3 : Nat) (gTs T (Int.toNat (↑i : Int))) else gTs T i_1) (gTs (Tw.put T i (Tw.r T (n - (1 : Nat))) (Tw.c T (n - (1 : Nat))) (Tw.x T (n - (1 : Nat)))) i_1))]) (by kernel_rfl) (.cons (by (simp only [e]; omega)) (.cons (by (simp only [e]; omega)) (.cons (by (simp only [e]; omega)) (.cons (by omega) (.cons (by omega) (.cons (by assumption) (.cons (by (simp only [e]; omega)) (.cons (by (simp only [e]; omega)) (.cons (by (simp only [e]; omega)) (.cons (by (simp only [e]; omega)) (.cons (by (simp only [e]; omega)) (.cons (by rfl) (.cons (by rfl) (.cons (by rfl) (.cons (by rfl) (.cons (by (simp only [e]; omega)) (.cons (by (simp only [e]; omega)) (.cons (by (intro j hj; replace hj : j < n - 1 := (by simpa only [e, Int.toNat_natCast] using hj); simp only [e, Int.toNat_natCast]; rw [if_neg (show ¬ j = n - 1 by omega)]; by_cases e2 : j = i <;> simp_all [Tw.put, leAts, leAt, AllT])) .nil)))))))))))))))))) (Nat.le_of_ble_eq_true (by kernel_rfl))

set_option maxHeartbeats 2000000 in
theorem lenS_0 (z : Nat) : FnOk Try.prog 25 ([.nv (.one (.val (.pointer none)))]) ([]) (iA 0) ([]) :=
  fn_run Gt0_ok Try.func25 (orc := ⟨[true], []⟩) (obl := [true = true,
      (0 : Int) = (0 : Int)]) (by kernel_rfl) (.cons (by rfl) (.cons (by rfl) .nil)) (Nat.le_of_ble_eq_true (by kernel_rfl))
end Go.Proofs.Ytakpokccjgoapaa
