/- Runs of Go code, as printed by a program: no condition beyond those that each states. -/
import Derived.Test.YtakpokccjgoapaaTwO
import Derived.Test.YtakpokccjgoapaaChecked
import Derived.KernelRfl
namespace Go.Proofs.Ytakpokccjgoapaa
set_option linter.unusedVariables false
set_option linter.unusedSimpArgs false
set_option maxRecDepth 100000
open Go.RowKit E
set_option maxHeartbeats 2000000 in
theorem minI (n : Nat) (T : Tw Int) (c m : Int) : FnOk Try.prog 11 ([.nv (.one (.ptr 0 0))]) (twRI n T c m) (itI (atR T n 0) (atX 0 T n 0) (isP n 0)) (twRI n T c m) :=
  fn_run Gt4_ok Try.func11 (orc := ⟨[], []⟩) (obl := [(0 : Nat) = (0 : Nat),
      (0 : Int) = (0 : Int),
      c = c,
      m = m,
      n = n,
      ∀ (i : Nat), i < n → Tw.r T i = Tw.r (twI (gTi T)) i ∧ Tw.c T i = Tw.c (twI (gTi T)) i ∧ Tw.x T i = Tw.x (twI (gTi T)) i ∧ True,
      atR (twI (gTi T)) n (0 : Int) = atR T n (0 : Int),
      atX (0 : Int) (twI (gTi T)) n (0 : Int) = atX (0 : Int) T n (0 : Int),
      isP n (0 : Int) = isP n (0 : Int),
      c = c,
      m = m,
      n = n,
      ∀ (i : Nat), i < n → Tw.r T i = Tw.r T i ∧ Tw.c T i = Tw.c T i ∧ Tw.x T i = Tw.x T i ∧ True]) (by kernel_rfl) (.cons (by rfl) (.cons (by rfl) (.cons (by rfl) (.cons (by rfl) (.cons (by rfl) (.cons (by (intro _ _; exact ⟨rfl, rfl, rfl, trivial⟩)) (.cons (by rfl) (.cons (by rfl) (.cons (by rfl) (.cons (by rfl) (.cons (by rfl) (.cons (by rfl) (.cons (by (intro _ _; exact ⟨rfl, rfl, rfl, trivial⟩)) .nil))))))))))))) (Nat.le_of_ble_eq_true (by kernel_rfl))

set_option maxHeartbeats 2000000 in
theorem minI_0 (n : Nat) : FnOk Try.prog 11 ([nilA]) ([]) (itI 0 0 false) ([]) :=
  fn_run Gt4_ok Try.func11 (orc := ⟨[], []⟩) (obl := [(0 : Int) ≤ (0 : Int),
      Value.pointer none = Value.pointer none,
      (0 : Int) = (0 : Int),
      (0 : Int) = (0 : Int),
      (0 : Int) = (0 : Int),
      false = false]) (by kernel_rfl) (.cons (by trivial) (.cons (by rfl) (.cons (by rfl) (.cons (by rfl) (.cons (by rfl) (.cons (by rfl) .nil)))))) (Nat.le_of_ble_eq_true (by kernel_rfl))

set_option maxHeartbeats 2000000 in
theorem maxI (n : Nat) (T : Tw Int) (c m : Int) (hn : n ≤ 100000) : FnOk Try.prog 13 ([.nv (.one (.ptr 0 0))]) (twRI n T c m) (itI (atR T n (mxI n)) (atX 0 T n (mxI n)) (isP n (mxI n))) (twRI n T c m) :=
  fn_run Gt4_ok Try.func13 (orc := ⟨[], []⟩) (obl := [(0 : Nat) = (0 : Nat),
      c = c,
      m = m,
      n = n,
      ∀ (i : Nat), i < n → Tw.r T i = Tw.r (twI (gTi T)) i ∧ Tw.c T i = Tw.c (twI (gTi T)) i ∧ Tw.x T i = Tw.x (twI (gTi T)) i ∧ True,
      (0 : Nat) = (0 : Nat),
      List.foldl (fun x y => if y < x then y else x) (1 : Int) [IntKind.wrap IntKind.i64 ((↑n : Int) - (1 : Int))] = List.foldl (fun x y => if y < x then y else x) (1 : Int) [IntKind.wrap IntKind.i64 ((↑n : Int) - (1 : Int))],
      c = c,
      m = m,
      n = n,
      ∀ (i : Nat), i < n → Tw.r T i = Tw.r (twI (gTi T)) i ∧ Tw.c T i = Tw.c (twI (gTi T)) i ∧ Tw.x T i = Tw.x (twI (gTi T)) i ∧ True,
      atR (twI (gTi T)) n (List.foldl (fun x y => if y < x then y else x) (1 : Int) [IntKind.wrap IntKind.i64 ((↑n : Int) - (1 : Int))]) = atR T n (mxI n),
      atX (0 : Int) (twI (gTi T)) n (List.foldl (fun x y => if y < x then y else x) (1 : Int) [IntKind.wrap IntKind.i64 ((↑n : Int) - (1 : Int))]) = atX (0 : Int) T n (mxI n),
      isP n (List.foldl (fun x y => if y < x then y else x) (1 : Int) [IntKind.wrap IntKind.i64 ((↑n : Int) - (1 : Int))]) = isP n (mxI n),
      c = c,
      m = m,
      n = n,
      ∀ (i : Nat), i < n → Tw.r T i = Tw.r T i ∧ Tw.c T i = Tw.c T i ∧ Tw.x T i = Tw.x T i ∧ True]) (by kernel_rfl) (.cons (by rfl) (.cons (by rfl) (.cons (by rfl) (.cons (by rfl) (.cons (by (intro _ _; exact ⟨rfl, rfl, rfl, trivial⟩)) (.cons (by rfl) (.cons (by rfl) (.cons (by rfl) (.cons (by rfl) (.cons (by rfl) (.cons (by (intro _ _; exact ⟨rfl, rfl, rfl, trivial⟩)) (.cons (by (rw [mxI_eq hn]; rfl)) (.cons (by (rw [mxI_eq hn]; rfl)) (.cons (by (rw [mxI_eq hn])) (.cons (by rfl) (.cons (by rfl) (.cons (by rfl) (.cons (by (intro _ _; exact ⟨rfl, rfl, rfl, trivial⟩)) .nil)))))))))))))))))) (Nat.le_of_ble_eq_true (by kernel_rfl))

set_option maxHeartbeats 2000000 in
theorem maxI_0 (n : Nat) : FnOk Try.prog 13 ([nilA]) ([]) (itI 0 0 false) ([]) :=
  fn_run Gt4_ok Try.func13 (orc := ⟨[], []⟩) (obl := [Value.pointer none = Value.pointer none,
      List.foldl (fun x y => if y < x then y else x) (1 : Int) [IntKind.wrap IntKind.i64 ((0 : Int) - (1 : Int))] ≤ (0 : Int),
      Value.pointer none = Value.pointer none,
      List.foldl (fun x y => if y < x then y else x) (1 : Int) [IntKind.wrap IntKind.i64 ((0 : Int) - (1 : Int))] = List.foldl (fun x y => if y < x then y else x) (1 : Int) [IntKind.wrap IntKind.i64 ((0 : Int) - (1 : Int))],
      (0 : Int) = (0 : Int),
      (0 : Int) = (0 : Int),
      false = false]) (by kernel_rfl) (.cons (by rfl) (.cons (by trivial) (.cons (by rfl) (.cons (by rfl) (.cons (by rfl) (.cons (by rfl) (.cons (by rfl) .nil))))))) (Nat.le_of_ble_eq_true (by kernel_rfl))

set_option maxHeartbeats 2000000 in
theorem pushI_0 (r : Int) (x : Int) : FnOk Try.prog 16 ([nilA, .nv (.one (.val (.int .u64 r))), .nv (.one (.val (.int .i64 x)))]) ([]) (bA false) ([]) :=
  fn_run Gt4_ok Try.func16 (orc := ⟨[true, true], []⟩) (obl := [true = true,
      true = true,
      false = false]) (by kernel_rfl) (.cons (by rfl) (.cons (by rfl) (.cons (by rfl) .nil))) (Nat.le_of_ble_eq_true (by kernel_rfl))

set_option maxHeartbeats 2000000 in
theorem pushI_f (n : Nat) (T : Tw Int) (r c m : Int) (x : Int) (hn : n ≤ 100000) (h : m ≤ n) : FnOk Try.prog 16 ([.nv (.one (.ptr 0 0)), .nv (.one (.val (.int .u64 r))), .nv (.one (.val (.int .i64 x)))]) (twMI n T c m) (bA false) (twNI n T c m) :=
  fn_run Gt4_ok Try.func16 (orc := ⟨[false, true], []⟩) (obl := [false = false,
      decide ((↑n : Int) ≥ m) = true,
      false = false,
      c = c,
      m = m,
      n = n,
      ∀ (i : Nat), i < n → Tw.r T i = Tw.r T i ∧ Tw.c T i = Tw.c T i ∧ Tw.x T i = Tw.x T i ∧ True]) (by kernel_rfl) (.cons (by rfl) (.cons (by exact decide_eq_true (by omega)) (.cons (by rfl) (.cons (by rfl) (.cons (by rfl) (.cons (by rfl) (.cons (by (intro _ _; exact ⟨rfl, rfl, rfl, trivial⟩)) .nil))))))) (Nat.le_of_ble_eq_true (by kernel_rfl))

set_option maxHeartbeats 2000000 in
theorem pushI_t (n : Nat) (T : Tw Int) (r c m : Int) (x : Int) (hn : n < 100000) (h : n < m) (hm : m ≤ 4096) (hc : IntKind.wrap IntKind.u64 (c + 1) = c + 1) (hw : IntKind.wrap IntKind.i64 (((n + 1 : Nat) : Int) - 1) = (n : Nat)) : FnOk Try.prog 16 ([.nv (.one (.ptr 0 0)), .nv (.one (.val (.int .u64 r))), .nv (.one (.val (.int .i64 x)))]) (twMI n T c m) (bA true) ([.box 53 [.own 2, .val (.int .u64 (c + 1)), .val (.int .i64 m)], .gone, .row 67 3 (n + 1) (gTi ((T.put n r c x).up (n + 1) n))]) :=
  fn_run Gt4_ok Try.func16 (orc := ⟨[false, false], []⟩) (obl := [false = false,
      decide ((↑n : Int) ≥ m) = false,
      n + (1 : Nat) ≤ (4611686018427387904 : Nat),
      (n + (1 : Nat)) * (24 : Nat) ≤ (140737488355328 : Nat),
      (0 : Int) ≤ IntKind.wrap IntKind.i64 ((↑(n + (1 : Nat)) : Int) - (1 : Int)),
      Int.toNat (IntKind.wrap IntKind.i64 ((↑(n + (1 : Nat)) : Int) - (1 : Int))) < n + (1 : Nat),
      n + (1 : Nat) ≤ (100000 : Nat),
      (0 : Nat) = (0 : Nat),
      IntKind.wrap IntKind.i64 ((↑(n + (1 : Nat)) : Int) - (1 : Int)) = IntKind.wrap IntKind.i64 ((↑(n + (1 : Nat)) : Int) - (1 : Int)),
      IntKind.wrap IntKind.u64 (c + (1 : Int)) = IntKind.wrap IntKind.u64 (c + (1 : Int)),
      m = m,
      n + (1 : Nat) = n + (1 : Nat),
      ∀ (i : Nat), i < n + (1 : Nat) → AllT (leAts ([] ++ ([((0 : Nat), Bd.same (0 : Nat))] ++ ([] ++ [])) ++ ([((1 : Nat), Bd.same (3 : Nat))] ++ ([] ++ ([] ++ [])) ++ [] ++ ([] ++ [] ++ []))) (2 : Nat) (if i = n then [At.val (Value.int IntKind.u64 r), At.val (Value.int IntKind.u64 c), At.val (Value.int IntKind.i64 x)] else gTi T i) (gTi (twI (appG n (1 : Nat) (gTi T) (litG (3 : Nat) [At.val (Value.int IntKind.u64 r), At.val (Value.int IntKind.u64 c), At.val (Value.int IntKind.i64 x)]))) i)),
      ∀ (i : Nat), i < n + (1 : Nat) → (true && (true && (true && true))) = true,
      true = true,
      IntKind.wrap IntKind.u64 (c + (1 : Int)) = c + (1 : Int),
      m = m,
      n + (1 : Nat) = n + (1 : Nat),
      ∀ (i : Nat), i < n + (1 : Nat) → Tw.r (Tw.up (twI (appG n (1 : Nat) (gTi T) (litG (3 : Nat) [At.val (Value.int IntKind.u64 r), At.val (Value.int IntKind.u64 c), At.val (Value.int IntKind.i64 x)]))) (n + (1 : Nat)) (Int.toNat (IntKind.wrap IntKind.i64 ((↑(n + (1 : Nat)) : Int) - (1 : Int))))) i = Tw.r (Tw.up (Tw.put T n r c x) (n + (1 : Nat)) n) i ∧ Tw.c (Tw.up (twI (appG n (1 : Nat) (gTi T) (litG (3 : Nat) [At.val (Value.int IntKind.u64 r), At.val (Value.int IntKind.u64 c), At.val (Value.int IntKind.i64 x)]))) (n + (1 : Nat)) (Int.toNat (IntKind.wrap IntKind.i64 ((↑(n + (1 : Nat)) : Int) - (1 : Int))))) i = Tw.c (Tw.up (Tw.put T n r c x) (n + (1 : Nat)) n) i ∧ Tw.x (Tw.up (twI (appG n (1 : Nat) (gTi T) (litG (3 : Nat) [At.val (Value.int IntKind.u64 r), At.val (Value.int IntKind.u64 c), At.val (Value.int IntKind.i64 x)]))) (n + (1 : Nat)) (Int.toNat (IntKind.wrap IntKind.i64 ((↑(n + (1 : Nat)) : Int) - (1 : Int))))) i = Tw.x (Tw.up (Tw.put T n r c x) (n + (1 : Nat)) n) i ∧ True]) (by kernel_rfl) (.cons (by rfl) (.cons (by exact decide_eq_false (by omega)) (.cons (by omega) (.cons (by omega) (.cons (by (simp only [hw]; omega)) (.cons (by (simp only [hw]; omega)) (.cons (by assumption) (.cons (by rfl) (.cons (by rfl) (.cons (by rfl) (.cons (by rfl) (.cons (by rfl) (.cons (by (intro i hi; simp only [app_putI]; by_cases e : i = n <;> simp [e, Tw.put, leAts, leAt, AllT])) (.cons (by (intro _ _; rfl)) (.cons (by rfl) (.cons (by assumption) (.cons (by rfl) (.cons (by rfl) (.cons (by (rw [app_putI, hw]; intro i hi; exact ⟨rfl, rfl, rfl, trivial⟩)) .nil))))))))))))))))))) (Nat.le_of_ble_eq_true (by kernel_rfl))

set_option maxHeartbeats 2000000 in
theorem maxS (n : Nat) (T : Tw ByteArray) (c m : Int) (hn : n ≤ 100000) : FnOk Try.prog 24 ([.nv (.one (.ptr 0 0))]) (twRS n T c m) (itS (atR T n (mxI n)) (atX ByteArray.empty T n (mxI n)) (isP n (mxI n))) (twRS n T c m) :=
  fn_run Gt4_ok Try.func24 (orc := ⟨[], []⟩) (obl := [(0 : Nat) = (0 : Nat),
      c = c,
      m = m,
      n = n,
      ∀ (i : Nat), i < n → Tw.r T i = Tw.r (twS (gTs T)) i ∧ Tw.c T i = Tw.c (twS (gTs T)) i ∧ Tw.x T i = Tw.x (twS (gTs T)) i ∧ True,
      (0 : Nat) = (0 : Nat),
      List.foldl (fun x y => if y < x then y else x) (1 : Int) [IntKind.wrap IntKind.i64 ((↑n : Int) - (1 : Int))] = List.foldl (fun x y => if y < x then y else x) (1 : Int) [IntKind.wrap IntKind.i64 ((↑n : Int) - (1 : Int))],
      c = c,
      m = m,
      n = n,
      ∀ (i : Nat), i < n → Tw.r T i = Tw.r (twS (gTs T)) i ∧ Tw.c T i = Tw.c (twS (gTs T)) i ∧ Tw.x T i = Tw.x (twS (gTs T)) i ∧ True,
      atR (twS (gTs T)) n (List.foldl (fun x y => if y < x then y else x) (1 : Int) [IntKind.wrap IntKind.i64 ((↑n : Int) - (1 : Int))]) = atR T n (mxI n),
      atX ByteArray.empty (twS (gTs T)) n (List.foldl (fun x y => if y < x then y else x) (1 : Int) [IntKind.wrap IntKind.i64 ((↑n : Int) - (1 : Int))]) = atX ByteArray.empty T n (mxI n),
      isP n (List.foldl (fun x y => if y < x then y else x) (1 : Int) [IntKind.wrap IntKind.i64 ((↑n : Int) - (1 : Int))]) = isP n (mxI n),
      c = c,
      m = m,
      n = n,
      ∀ (i : Nat), i < n → Tw.r T i = Tw.r T i ∧ Tw.c T i = Tw.c T i ∧ Tw.x T i = Tw.x T i ∧ True]) (by kernel_rfl) (.cons (by rfl) (.cons (by rfl) (.cons (by rfl) (.cons (by rfl) (.cons (by (intro _ _; exact ⟨rfl, rfl, rfl, trivial⟩)) (.cons (by rfl) (.cons (by rfl) (.cons (by rfl) (.cons (by rfl) (.cons (by rfl) (.cons (by (intro _ _; exact ⟨rfl, rfl, rfl, trivial⟩)) (.cons (by (rw [mxI_eq hn]; rfl)) (.cons (by (rw [mxI_eq hn]; rfl)) (.cons (by (rw [mxI_eq hn])) (.cons (by rfl) (.cons (by rfl) (.cons (by rfl) (.cons (by (intro _ _; exact ⟨rfl, rfl, rfl, trivial⟩)) .nil)))))))))))))))))) (Nat.le_of_ble_eq_true (by kernel_rfl))

set_option maxHeartbeats 2000000 in
theorem maxS_0 (n : Nat) : FnOk Try.prog 24 ([nilA]) ([]) (itS 0 ByteArray.empty false) ([]) :=
  fn_run Gt4_ok Try.func24 (orc := ⟨[], []⟩) (obl := [Value.pointer none = Value.pointer none,
      List.foldl (fun x y => if y < x then y else x) (1 : Int) [IntKind.wrap IntKind.i64 ((0 : Int) - (1 : Int))] ≤ (0 : Int),
      Value.pointer none = Value.pointer none,
      List.foldl (fun x y => if y < x then y else x) (1 : Int) [IntKind.wrap IntKind.i64 ((0 : Int) - (1 : Int))] = List.foldl (fun x y => if y < x then y else x) (1 : Int) [IntKind.wrap IntKind.i64 ((0 : Int) - (1 : Int))],
      (0 : Int) = (0 : Int),
      ByteArray.empty = ByteArray.empty,
      false = false]) (by kernel_rfl) (.cons (by rfl) (.cons (by trivial) (.cons (by rfl) (.cons (by rfl) (.cons (by rfl) (.cons (by rfl) (.cons (by rfl) .nil))))))) (Nat.le_of_ble_eq_true (by kernel_rfl))

set_option maxHeartbeats 2000000 in
theorem pushS_0 (r : Int) (x : ByteArray) : FnOk Try.prog 22 ([nilA, .nv (.one (.val (.int .u64 r))), .nv (.one (.val (.string x)))]) ([]) (bA false) ([]) :=
  fn_run Gt4_ok Try.func22 (orc := ⟨[true, true], []⟩) (obl := [true = true,
      true = true,
      false = false]) (by kernel_rfl) (.cons (by rfl) (.cons (by rfl) (.cons (by rfl) .nil))) (Nat.le_of_ble_eq_true (by kernel_rfl))

set_option maxHeartbeats 2000000 in
theorem pushS_f (n : Nat) (T : Tw ByteArray) (r c m : Int) (x : ByteArray) (hn : n ≤ 100000) (h : m ≤ n) : FnOk Try.prog 22 ([.nv (.one (.ptr 0 0)), .nv (.one (.val (.int .u64 r))), .nv (.one (.val (.string x)))]) (twMS n T c m) (bA false) (twNS n T c m) :=
  fn_run Gt4_ok Try.func22 (orc := ⟨[false, true], []⟩) (obl := [false = false,
      decide ((↑n : Int) ≥ m) = true,
      false = false,
      c = c,
      m = m,
      n = n,
      ∀ (i : Nat), i < n → Tw.r T i = Tw.r T i ∧ Tw.c T i = Tw.c T i ∧ Tw.x T i = Tw.x T i ∧ True]) (by kernel_rfl) (.cons (by rfl) (.cons (by exact decide_eq_true (by omega)) (.cons (by rfl) (.cons (by rfl) (.cons (by rfl) (.cons (by rfl) (.cons (by (intro _ _; exact ⟨rfl, rfl, rfl, trivial⟩)) .nil))))))) (Nat.le_of_ble_eq_true (by kernel_rfl))

set_option maxHeartbeats 2000000 in
theorem pushS_t (n : Nat) (T : Tw ByteArray) (r c m : Int) (x : ByteArray) (hn : n < 100000) (h : n < m) (hm : m ≤ 4096) (hc : IntKind.wrap IntKind.u64 (c + 1) = c + 1) (hw : IntKind.wrap IntKind.i64 (((n + 1 : Nat) : Int) - 1) = (n : Nat)) : FnOk Try.prog 22 ([.nv (.one (.ptr 0 0)), .nv (.one (.val (.int .u64 r))), .nv (.one (.val (.string x)))]) (twMS n T c m) (bA true) ([.box 71 [.own 2, .val (.int .u64 (c + 1)), .val (.int .i64 m)], .gone, .row 73 3 (n + 1) (gTs ((T.put n r c x).up (n + 1) n))]) :=
  fn_run Gt4_ok Try.func22 (orc := ⟨[false, false], []⟩) (obl := [false = false,
      decide ((↑n : Int) ≥ m) = false,
      n + (1 : Nat) ≤ (4611686018427387904 : Nat),
      (n + (1 : Nat)) * (32 : Nat) ≤ (140737488355328 : Nat),
      (0 : Int) ≤ IntKind.wrap IntKind.i64 ((↑(n + (1 : Nat)) : Int) - (1 : Int)),
      Int.toNat (IntKind.wrap IntKind.i64 ((↑(n + (1 : Nat)) : Int) - (1 : Int))) < n + (1 : Nat),
      n + (1 : Nat) ≤ (100000 : Nat),
      (0 : Nat) = (0 : Nat),
      IntKind.wrap IntKind.i64 ((↑(n + (1 : Nat)) : Int) - (1 : Int)) = IntKind.wrap IntKind.i64 ((↑(n + (1 : Nat)) : Int) - (1 : Int)),
      IntKind.wrap IntKind.u64 (c + (1 : Int)) = IntKind.wrap IntKind.u64 (c + (1 : Int)),
      m = m,
      n + (1 : Nat) = n + (1 : Nat),
      ∀ (i : Nat), i < n + (1 : Nat) → AllT (leAts ([] ++ ([((0 : Nat), Bd.same (0 : Nat))] ++ ([] ++ [])) ++ ([((1 : Nat), Bd.same (3 : Nat))] ++ ([] ++ ([] ++ [])) ++ [] ++ ([] ++ [] ++ []))) (2 : Nat) (if i = n then [At.val (Value.int IntKind.u64 r), At.val (Value.int IntKind.u64 c), At.val (Value.string x)] else gTs T i) (gTs (twS (appG n (1 : Nat) (gTs T) (litG (3 : Nat) [At.val (Value.int IntKind.u64 r), At.val (Value.int IntKind.u64 c), At.val (Value.string x)]))) i)),
      ∀ (i : Nat), i < n + (1 : Nat) → (true && (true && (true && true))) = true,
      true = true,
      IntKind.wrap IntKind.u64 (c + (1 : Int)) = c + (1 : Int),
      m = m,
      n + (1 : Nat) = n + (1 : Nat),
      ∀ (i : Nat), i < n + (1 : Nat) → Tw.r (Tw.up (twS (appG n (1 : Nat) (gTs T) (litG (3 : Nat) [At.val (Value.int IntKind.u64 r), At.val (Value.int IntKind.u64 c), At.val (Value.string x)]))) (n + (1 : Nat)) (Int.toNat (IntKind.wrap IntKind.i64 ((↑(n + (1 : Nat)) : Int) - (1 : Int))))) i = Tw.r (Tw.up (Tw.put T n r c x) (n + (1 : Nat)) n) i ∧ Tw.c (Tw.up (twS (appG n (1 : Nat) (gTs T) (litG (3 : Nat) [At.val (Value.int IntKind.u64 r), At.val (Value.int IntKind.u64 c), At.val (Value.string x)]))) (n + (1 : Nat)) (Int.toNat (IntKind.wrap IntKind.i64 ((↑(n + (1 : Nat)) : Int) - (1 : Int))))) i = Tw.c (Tw.up (Tw.put T n r c x) (n + (1 : Nat)) n) i ∧ Tw.x (Tw.up (twS (appG n (1 : Nat) (gTs T) (litG (3 : Nat) [At.val (Value.int IntKind.u64 r), At.val (Value.int IntKind.u64 c), At.val (Value.string x)]))) (n + (1 : Nat)) (Int.toNat (IntKind.wrap IntKind.i64 ((↑(n + (1 : Nat)) : Int) - (1 : Int))))) i = Tw.x (Tw.up (Tw.put T n r c x) (n + (1 : Nat)) n) i ∧ True]) (by kernel_rfl) (.cons (by rfl) (.cons (by exact decide_eq_false (by omega)) (.cons (by omega) (.cons (by omega) (.cons (by (simp only [hw]; omega)) (.cons (by (simp only [hw]; omega)) (.cons (by assumption) (.cons (by rfl) (.cons (by rfl) (.cons (by rfl) (.cons (by rfl) (.cons (by rfl) (.cons (by (intro i hi; simp only [app_putS]; by_cases e : i = n <;> simp [e, Tw.put, leAts, leAt, AllT])) (.cons (by (intro _ _; rfl)) (.cons (by rfl) (.cons (by assumption) (.cons (by rfl) (.cons (by rfl) (.cons (by (rw [app_putS, hw]; intro i hi; exact ⟨rfl, rfl, rfl, trivial⟩)) .nil))))))))))))))))))) (Nat.le_of_ble_eq_true (by kernel_rfl))
end Go.Proofs.Ytakpokccjgoapaa
