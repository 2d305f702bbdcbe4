/- Runs of Go code, as printed by a program: no condition beyond those that each states. -/
import Derived.Test.YtecgigeahkijaaaOpH
import Derived.Test.YtecgigeahkijaaaChecked
import Derived.KernelRfl
namespace Go.Proofs.Ytecgigeahkijaaa
set_option linter.unusedVariables false
set_option linter.unusedSimpArgs false
set_option maxRecDepth 100000
open Go.RowKit E
set_option maxHeartbeats 2000000 in
theorem br_0 (fl id ln tk : Int) : PureOk Try.prog 17 ([.nv (.agg [.val (.int .i64 0), .val (.int .u32 fl), .val (.int .u32 id), .val (.int .u64 ln), .val (.int .u64 tk)])]) (.nv (.agg [.val (.int .i64 0), .val (.int .u32 0), .val (.int .u32 0), .val (.int .u64 ln), .val (.int .u64 0)])) :=
  pure_run GoC_ok Try.func17 (orc := ⟨[false, false, true], []⟩) (obl := [((0 : Int) == (1 : Int)) = false,
      ((0 : Int) == (3 : Int)) = false,
      ((0 : Int) == (0 : Int)) = true,
      (0 : Int) = (0 : Int),
      (0 : Int) = (0 : Int),
      (0 : Int) = (0 : Int),
      ln = ln,
      (0 : Int) = (0 : Int)]) (by kernel_rfl) (.cons (by rfl) (.cons (by rfl) (.cons (by rfl) (.cons (by rfl) (.cons (by rfl) (.cons (by rfl) (.cons (by rfl) (.cons (by rfl) .nil))))))))

set_option maxHeartbeats 2000000 in
theorem br_1 (fl id ln tk : Int) : PureOk Try.prog 17 ([.nv (.agg [.val (.int .i64 1), .val (.int .u32 fl), .val (.int .u32 id), .val (.int .u64 ln), .val (.int .u64 tk)])]) (.nv (.agg [.val (.int .i64 1), .val (.int .u32 fl), .val (.int .u32 id), .val (.int .u64 ln), .val (.int .u64 0)])) :=
  pure_run GoC_ok Try.func17 (orc := ⟨[true], []⟩) (obl := [((1 : Int) == (1 : Int)) = true,
      (1 : Int) = (1 : Int),
      fl = fl,
      id = id,
      ln = ln,
      (0 : Int) = (0 : Int)]) (by kernel_rfl) (.cons (by rfl) (.cons (by rfl) (.cons (by rfl) (.cons (by rfl) (.cons (by rfl) (.cons (by rfl) .nil))))))

set_option maxHeartbeats 2000000 in
theorem br_3 (fl id ln tk : Int) : PureOk Try.prog 17 ([.nv (.agg [.val (.int .i64 3), .val (.int .u32 fl), .val (.int .u32 id), .val (.int .u64 ln), .val (.int .u64 tk)])]) (.nv (.agg [.val (.int .i64 3), .val (.int .u32 0), .val (.int .u32 0), .val (.int .u64 0), .val (.int .u64 tk)])) :=
  pure_run GoC_ok Try.func17 (orc := ⟨[false, true], []⟩) (obl := [((3 : Int) == (1 : Int)) = false,
      ((3 : Int) == (3 : Int)) = true,
      (3 : Int) = (3 : Int),
      (0 : Int) = (0 : Int),
      (0 : Int) = (0 : Int),
      (0 : Int) = (0 : Int),
      tk = tk]) (by kernel_rfl) (.cons (by rfl) (.cons (by rfl) (.cons (by rfl) (.cons (by rfl) (.cons (by rfl) (.cons (by rfl) (.cons (by rfl) .nil)))))))

set_option maxHeartbeats 2000000 in
theorem br_x (k fl id ln tk : Int) (h0 : k ≠ 0) (h1 : k ≠ 1) (h3 : k ≠ 3) : PureOk Try.prog 17 ([.nv (.agg [.val (.int .i64 k), .val (.int .u32 fl), .val (.int .u32 id), .val (.int .u64 ln), .val (.int .u64 tk)])]) (.nv (.agg [.val (.int .i64 k), .val (.int .u32 0), .val (.int .u32 0), .val (.int .u64 0), .val (.int .u64 0)])) :=
  pure_run GoC_ok Try.func17 (orc := ⟨[false, false, false], []⟩) (obl := [(k == (1 : Int)) = false,
      (k == (3 : Int)) = false,
      (k == (0 : Int)) = false,
      k = k,
      (0 : Int) = (0 : Int),
      (0 : Int) = (0 : Int),
      (0 : Int) = (0 : Int),
      (0 : Int) = (0 : Int)]) (by kernel_rfl) (.cons (by exact decide_eq_false (by omega)) (.cons (by exact decide_eq_false (by omega)) (.cons (by exact decide_eq_false (by omega)) (.cons (by rfl) (.cons (by rfl) (.cons (by rfl) (.cons (by rfl) (.cons (by rfl) .nil))))))))

set_option maxHeartbeats 2000000 in
theorem rq_1 (fl id ln tk : Int) : PureOk Try.prog 11 ([.nv (.agg [.val (.int .i64 1), .val (.int .u32 fl), .val (.int .u32 id), .val (.int .u64 ln), .val (.int .u64 tk)])]) (bA (tk == 0)) :=
  pure_run GoC_ok Try.func11 (orc := ⟨[true], []⟩) (obl := [((1 : Int) == (1 : Int)) = true,
      (tk == (0 : Int)) = (tk == (0 : Int))]) (by kernel_rfl) (.cons (by rfl) (.cons (by rfl) .nil))

set_option maxHeartbeats 2000000 in
theorem rq_f (k fl id ln tk : Int) (h1 : k ≠ 1) (hf : fl ≠ 0) : PureOk Try.prog 11 ([.nv (.agg [.val (.int .i64 k), .val (.int .u32 fl), .val (.int .u32 id), .val (.int .u64 ln), .val (.int .u64 tk)])]) (bA false) :=
  pure_run GoC_ok Try.func11 (orc := ⟨[false, true, true], []⟩) (obl := [(k == (1 : Int)) = false,
      (fl != (0 : Int)) = true,
      true = true,
      false = false]) (by kernel_rfl) (.cons (by exact decide_eq_false (by omega)) (.cons (by exact bne_iff_ne.2 (by omega)) (.cons (by rfl) (.cons (by rfl) .nil))))

set_option maxHeartbeats 2000000 in
theorem rq_i (k fl id ln tk : Int) (h1 : k ≠ 1) (hf : fl = 0) (hi : id ≠ 0) : PureOk Try.prog 11 ([.nv (.agg [.val (.int .i64 k), .val (.int .u32 fl), .val (.int .u32 id), .val (.int .u64 ln), .val (.int .u64 tk)])]) (bA false) :=
  pure_run GoC_ok Try.func11 (orc := ⟨[false, false, true], []⟩) (obl := [(k == (1 : Int)) = false,
      (fl != (0 : Int)) = false,
      (id != (0 : Int)) = true,
      false = false]) (by kernel_rfl) (.cons (by exact decide_eq_false (by omega)) (.cons (by exact bne_eq_false_iff_eq.2 (by omega)) (.cons (by exact bne_iff_ne.2 (by omega)) (.cons (by rfl) .nil))))

set_option maxHeartbeats 2000000 in
theorem rq_0t (ln tk : Int) (h : tk ≠ 0) : PureOk Try.prog 11 ([.nv (.agg [.val (.int .i64 0), .val (.int .u32 0), .val (.int .u32 0), .val (.int .u64 ln), .val (.int .u64 tk)])]) (bA false) :=
  pure_run GoC_ok Try.func11 (orc := ⟨[false, false, false, true, false, false], []⟩) (obl := [((0 : Int) == (1 : Int)) = false,
      ((0 : Int) != (0 : Int)) = false,
      ((0 : Int) != (0 : Int)) = false,
      ((0 : Int) == (0 : Int)) = true,
      (tk == (0 : Int)) = false,
      false = false,
      false = false]) (by kernel_rfl) (.cons (by rfl) (.cons (by rfl) (.cons (by rfl) (.cons (by rfl) (.cons (by exact decide_eq_false (by omega)) (.cons (by rfl) (.cons (by rfl) .nil)))))))

set_option maxHeartbeats 2000000 in
theorem rq_0l (ln : Int) (h : ¬ ln < 256) : PureOk Try.prog 11 ([.nv (.agg [.val (.int .i64 0), .val (.int .u32 0), .val (.int .u32 0), .val (.int .u64 ln), .val (.int .u64 0)])]) (bA false) :=
  pure_run GoC_ok Try.func11 (orc := ⟨[false, false, false, true, true, false], []⟩) (obl := [((0 : Int) == (1 : Int)) = false,
      ((0 : Int) != (0 : Int)) = false,
      ((0 : Int) != (0 : Int)) = false,
      ((0 : Int) == (0 : Int)) = true,
      ((0 : Int) == (0 : Int)) = true,
      decide (ln < (256 : Int)) = false,
      false = false]) (by kernel_rfl) (.cons (by rfl) (.cons (by rfl) (.cons (by rfl) (.cons (by rfl) (.cons (by rfl) (.cons (by exact decide_eq_false (by omega)) (.cons (by rfl) .nil)))))))

set_option maxHeartbeats 2000000 in
theorem rq_0z  : PureOk Try.prog 11 ([.nv (.agg [.val (.int .i64 0), .val (.int .u32 0), .val (.int .u32 0), .val (.int .u64 0), .val (.int .u64 0)])]) (bA true) :=
  pure_run GoC_ok Try.func11 (orc := ⟨[false, false, false, true, true, true, true], []⟩) (obl := [((0 : Int) == (1 : Int)) = false,
      ((0 : Int) != (0 : Int)) = false,
      ((0 : Int) != (0 : Int)) = false,
      ((0 : Int) == (0 : Int)) = true,
      ((0 : Int) == (0 : Int)) = true,
      decide ((0 : Int) < (256 : Int)) = true,
      ((0 : Int) == (0 : Int)) = true,
      true = true]) (by kernel_rfl) (.cons (by rfl) (.cons (by rfl) (.cons (by rfl) (.cons (by rfl) (.cons (by rfl) (.cons (by rfl) (.cons (by rfl) (.cons (by rfl) .nil))))))))

set_option maxHeartbeats 2000000 in
theorem rq_0g (ln : Int) (h : ln < 256) (h0 : ln ≠ 0) : PureOk Try.prog 11 ([.nv (.agg [.val (.int .i64 0), .val (.int .u32 0), .val (.int .u32 0), .val (.int .u64 ln), .val (.int .u64 0)])]) (bA (decide (ln > 4))) :=
  pure_run GoC_ok Try.func11 (orc := ⟨[false, false, false, true, true, true, false], []⟩) (obl := [((0 : Int) == (1 : Int)) = false,
      ((0 : Int) != (0 : Int)) = false,
      ((0 : Int) != (0 : Int)) = false,
      ((0 : Int) == (0 : Int)) = true,
      ((0 : Int) == (0 : Int)) = true,
      decide (ln < (256 : Int)) = true,
      (ln == (0 : Int)) = false,
      decide (ln > (4 : Int)) = decide (ln > (4 : Int))]) (by kernel_rfl) (.cons (by rfl) (.cons (by rfl) (.cons (by rfl) (.cons (by rfl) (.cons (by rfl) (.cons (by exact decide_eq_true (by omega)) (.cons (by exact decide_eq_false (by omega)) (.cons (by rfl) .nil))))))))

set_option maxHeartbeats 2000000 in
theorem rq_3 (ln tk : Int) : PureOk Try.prog 11 ([.nv (.agg [.val (.int .i64 3), .val (.int .u32 0), .val (.int .u32 0), .val (.int .u64 ln), .val (.int .u64 tk)])]) (bA (ln == 0)) :=
  pure_run GoC_ok Try.func11 (orc := ⟨[false, false, false, false, true], []⟩) (obl := [((3 : Int) == (1 : Int)) = false,
      ((0 : Int) != (0 : Int)) = false,
      ((0 : Int) != (0 : Int)) = false,
      ((3 : Int) == (0 : Int)) = false,
      ((3 : Int) == (3 : Int)) = true,
      (ln == (0 : Int)) = (ln == (0 : Int))]) (by kernel_rfl) (.cons (by rfl) (.cons (by rfl) (.cons (by rfl) (.cons (by rfl) (.cons (by rfl) (.cons (by rfl) .nil))))))

set_option maxHeartbeats 2000000 in
theorem rq_2 (tk : Int) : PureOk Try.prog 11 ([.nv (.agg [.val (.int .i64 2), .val (.int .u32 0), .val (.int .u32 0), .val (.int .u64 0), .val (.int .u64 tk)])]) (bA (tk == 0)) :=
  pure_run GoC_ok Try.func11 (orc := ⟨[false, false, false, false, false, true, true, true], []⟩) (obl := [((2 : Int) == (1 : Int)) = false,
      ((0 : Int) != (0 : Int)) = false,
      ((0 : Int) != (0 : Int)) = false,
      ((2 : Int) == (0 : Int)) = false,
      ((2 : Int) == (3 : Int)) = false,
      ((2 : Int) == (2 : Int)) = true,
      true = true,
      ((0 : Int) == (0 : Int)) = true,
      (tk == (0 : Int)) = (tk == (0 : Int))]) (by kernel_rfl) (.cons (by rfl) (.cons (by rfl) (.cons (by rfl) (.cons (by rfl) (.cons (by rfl) (.cons (by rfl) (.cons (by rfl) (.cons (by rfl) (.cons (by rfl) .nil)))))))))

set_option maxHeartbeats 2000000 in
theorem rq_4 (tk : Int) : PureOk Try.prog 11 ([.nv (.agg [.val (.int .i64 4), .val (.int .u32 0), .val (.int .u32 0), .val (.int .u64 0), .val (.int .u64 tk)])]) (bA (tk == 0)) :=
  pure_run GoC_ok Try.func11 (orc := ⟨[false, false, false, false, false, false, true, true], []⟩) (obl := [((4 : Int) == (1 : Int)) = false,
      ((0 : Int) != (0 : Int)) = false,
      ((0 : Int) != (0 : Int)) = false,
      ((4 : Int) == (0 : Int)) = false,
      ((4 : Int) == (3 : Int)) = false,
      ((4 : Int) == (2 : Int)) = false,
      ((4 : Int) == (4 : Int)) = true,
      ((0 : Int) == (0 : Int)) = true,
      (tk == (0 : Int)) = (tk == (0 : Int))]) (by kernel_rfl) (.cons (by rfl) (.cons (by rfl) (.cons (by rfl) (.cons (by rfl) (.cons (by rfl) (.cons (by rfl) (.cons (by rfl) (.cons (by rfl) (.cons (by rfl) .nil)))))))))

set_option maxHeartbeats 2000000 in
theorem rq_2l (ln tk : Int) (h : ln ≠ 0) : PureOk Try.prog 11 ([.nv (.agg [.val (.int .i64 2), .val (.int .u32 0), .val (.int .u32 0), .val (.int .u64 ln), .val (.int .u64 tk)])]) (bA false) :=
  pure_run GoC_ok Try.func11 (orc := ⟨[false, false, false, false, false, true, true, false], []⟩) (obl := [((2 : Int) == (1 : Int)) = false,
      ((0 : Int) != (0 : Int)) = false,
      ((0 : Int) != (0 : Int)) = false,
      ((2 : Int) == (0 : Int)) = false,
      ((2 : Int) == (3 : Int)) = false,
      ((2 : Int) == (2 : Int)) = true,
      true = true,
      (ln == (0 : Int)) = false,
      false = false]) (by kernel_rfl) (.cons (by rfl) (.cons (by rfl) (.cons (by rfl) (.cons (by rfl) (.cons (by rfl) (.cons (by rfl) (.cons (by rfl) (.cons (by exact decide_eq_false (by omega)) (.cons (by rfl) .nil)))))))))

set_option maxHeartbeats 2000000 in
theorem rq_4l (ln tk : Int) (h : ln ≠ 0) : PureOk Try.prog 11 ([.nv (.agg [.val (.int .i64 4), .val (.int .u32 0), .val (.int .u32 0), .val (.int .u64 ln), .val (.int .u64 tk)])]) (bA false) :=
  pure_run GoC_ok Try.func11 (orc := ⟨[false, false, false, false, false, false, true, false], []⟩) (obl := [((4 : Int) == (1 : Int)) = false,
      ((0 : Int) != (0 : Int)) = false,
      ((0 : Int) != (0 : Int)) = false,
      ((4 : Int) == (0 : Int)) = false,
      ((4 : Int) == (3 : Int)) = false,
      ((4 : Int) == (2 : Int)) = false,
      ((4 : Int) == (4 : Int)) = true,
      (ln == (0 : Int)) = false,
      false = false]) (by kernel_rfl) (.cons (by rfl) (.cons (by rfl) (.cons (by rfl) (.cons (by rfl) (.cons (by rfl) (.cons (by rfl) (.cons (by rfl) (.cons (by exact decide_eq_false (by omega)) (.cons (by rfl) .nil)))))))))

set_option maxHeartbeats 2000000 in
theorem rq_x (k ln tk : Int) (h0 : k ≠ 0) (h1 : k ≠ 1) (h2 : k ≠ 2) (h3 : k ≠ 3) (h4 : k ≠ 4) : PureOk Try.prog 11 ([.nv (.agg [.val (.int .i64 k), .val (.int .u32 0), .val (.int .u32 0), .val (.int .u64 ln), .val (.int .u64 tk)])]) (bA false) :=
  pure_run GoC_ok Try.func11 (orc := ⟨[false, false, false, false, false, false, false, false], []⟩) (obl := [(k == (1 : Int)) = false,
      ((0 : Int) != (0 : Int)) = false,
      ((0 : Int) != (0 : Int)) = false,
      (k == (0 : Int)) = false,
      (k == (3 : Int)) = false,
      (k == (2 : Int)) = false,
      (k == (4 : Int)) = false,
      false = false,
      false = false]) (by kernel_rfl) (.cons (by exact decide_eq_false (by omega)) (.cons (by rfl) (.cons (by rfl) (.cons (by exact decide_eq_false (by omega)) (.cons (by exact decide_eq_false (by omega)) (.cons (by exact decide_eq_false (by omega)) (.cons (by exact decide_eq_false (by omega)) (.cons (by rfl) (.cons (by rfl) .nil)))))))))

set_option maxHeartbeats 2000000 in
theorem fs_0 (fl id ln tk : Int) : FnOk Try.prog 19 ([.nv (.agg [.val (.int .i64 0), .val (.int .u32 fl), .val (.int .u32 id), .val (.int .u64 ln), .val (.int .u64 tk)])]) ([]) (.nv (.one (.own 0))) ([.row 47 3 1 (gF (fun j => ⟨1, ln, .empty⟩))]) :=
  fn_run GoC_ok Try.func19 (orc := ⟨[true], []⟩) (obl := [((0 : Int) == (0 : Int)) = true,
      (0 : Int) ≤ (0 : Int),
      (0 : Int) < (↑(1 : Nat) : Int),
      (0 : Nat) < (1 : Nat),
      (1 : Nat) = (1 : Nat),
      ∀ (i : Nat), i < (1 : Nat) → AllT (leAts ([] ++ ([((0 : Nat), Bd.same (1 : Nat))] ++ []) ++ ([] ++ [] ++ ([] ++ []))) (1 : Nat) (if i = (0 : Nat) then List.take (1 : Nat) [At.val (Value.int IntKind.i64 (1 : Int)), At.val (Value.int IntKind.u64 (IntKind.wrap IntKind.u64 (0 : Int))), At.val (Value.string (ByteArray.mk #[]))] ++ [At.val (Value.int IntKind.u64 ln)] ++ List.drop (2 : Nat) [At.val (Value.int IntKind.i64 (1 : Int)), At.val (Value.int IntKind.u64 (IntKind.wrap IntKind.u64 (0 : Int))), At.val (Value.string (ByteArray.mk #[]))] else litG (3 : Nat) [At.val (Value.int IntKind.i64 (1 : Int)), At.val (Value.int IntKind.u64 (IntKind.wrap IntKind.u64 (0 : Int))), At.val (Value.string (ByteArray.mk #[]))] i) (gF (fun (j : Nat) => { k := (1 : Int), n := ln, s := ByteArray.empty }) i))]) (by kernel_rfl) (.cons (by rfl) (.cons (by trivial) (.cons (by trivial) (.cons (by trivial) (.cons (by rfl) (.cons (by (intro i hi; match i, hi with | 0, _ => exact ⟨rfl, rfl, rfl, trivial⟩)) .nil)))))) (Nat.le_of_ble_eq_true (by kernel_rfl))

set_option maxHeartbeats 2000000 in
theorem fs_1 (fl id ln tk : Int) (hf : IntKind.wrap IntKind.u64 fl = fl) (hi : IntKind.wrap IntKind.u64 id = id) : FnOk Try.prog 19 ([.nv (.agg [.val (.int .i64 1), .val (.int .u32 fl), .val (.int .u32 id), .val (.int .u64 ln), .val (.int .u64 tk)])]) ([]) (.nv (.one (.own 0))) ([.row 47 3 4 (gF (fun j => if j = 0 then ⟨1, 1, .empty⟩ else if j = 1 then ⟨3, fl, .empty⟩ else if j = 2 then ⟨3, id, .empty⟩ else ⟨5, ln, .empty⟩))]) :=
  fn_run GoC_ok Try.func19 (orc := ⟨[false, true], []⟩) (obl := [((1 : Int) == (0 : Int)) = false,
      ((1 : Int) == (1 : Int)) = true,
      (4 : Nat) ≤ (4611686018427387904 : Nat),
      (128 : Nat) ≤ (140737488355328 : Nat),
      (4 : Nat) = (4 : Nat),
      ∀ (i : Nat), i < (4 : Nat) → AllT (leAts ([] ++ ([((0 : Nat), Bd.same (3 : Nat))] ++ []) ++ ([] ++ [] ++ ([] ++ []))) (1 : Nat) (if (3 : Nat) = (1 : Nat) then if i = (1 : Nat) then [At.val (Value.int IntKind.i64 (3 : Int)), At.val (Value.int IntKind.u64 (IntKind.wrap IntKind.u64 fl)), At.val (Value.string (ByteArray.mk #[]))] else litG (3 : Nat) [At.val (Value.int IntKind.i64 (1 : Int)), At.val (Value.int IntKind.u64 (IntKind.wrap IntKind.u64 (1 : Int))), At.val (Value.string (ByteArray.mk #[]))] i else if i < (1 : Nat) then litG (3 : Nat) [At.val (Value.int IntKind.i64 (1 : Int)), At.val (Value.int IntKind.u64 (IntKind.wrap IntKind.u64 (1 : Int))), At.val (Value.string (ByteArray.mk #[]))] i else litG (3 : Nat) [At.val (Value.int IntKind.i64 (3 : Int)), At.val (Value.int IntKind.u64 (IntKind.wrap IntKind.u64 fl)), At.val (Value.string (ByteArray.mk #[])), At.val (Value.int IntKind.i64 (3 : Int)), At.val (Value.int IntKind.u64 (IntKind.wrap IntKind.u64 id)), At.val (Value.string (ByteArray.mk #[])), At.val (Value.int IntKind.i64 (5 : Int)), At.val (Value.int IntKind.u64 ln), At.val (Value.string (ByteArray.mk #[]))] (i - (1 : Nat))) (gF (fun (j : Nat) => if j = (0 : Nat) then { k := (1 : Int), n := (1 : Int), s := ByteArray.empty } else if j = (1 : Nat) then { k := (3 : Int), n := fl, s := ByteArray.empty } else if j = (2 : Nat) then { k := (3 : Int), n := id, s := ByteArray.empty } else { k := (5 : Int), n := ln, s := ByteArray.empty }) i))]) (by kernel_rfl) (.cons (by rfl) (.cons (by rfl) (.cons (by trivial) (.cons (by trivial) (.cons (by rfl) (.cons (by (intro i h9; match i, h9 with | 0, _ => exact ⟨rfl, rfl, rfl, trivial⟩ | 1, _ => exact ⟨rfl, hf, rfl, trivial⟩ | 2, _ => exact ⟨rfl, hi, rfl, trivial⟩ | 3, _ => exact ⟨rfl, rfl, rfl, trivial⟩)) .nil)))))) (Nat.le_of_ble_eq_true (by kernel_rfl))

set_option maxHeartbeats 2000000 in
theorem fs_3 (fl id ln tk : Int) : FnOk Try.prog 19 ([.nv (.agg [.val (.int .i64 3), .val (.int .u32 fl), .val (.int .u32 id), .val (.int .u64 ln), .val (.int .u64 tk)])]) ([]) (.nv (.one (.own 0))) ([.row 47 3 2 (gF (fun j => if j = 0 then ⟨1, 3, .empty⟩ else ⟨5, tk, .empty⟩))]) :=
  fn_run GoC_ok Try.func19 (orc := ⟨[false, false, true], []⟩) (obl := [((3 : Int) == (0 : Int)) = false,
      ((3 : Int) == (1 : Int)) = false,
      ((3 : Int) == (3 : Int)) = true,
      (2 : Nat) ≤ (4611686018427387904 : Nat),
      (64 : Nat) ≤ (140737488355328 : Nat),
      (2 : Nat) = (2 : Nat),
      ∀ (i : Nat), i < (2 : Nat) → AllT (leAts ([] ++ ([((0 : Nat), Bd.same (3 : Nat))] ++ []) ++ ([] ++ [] ++ ([] ++ []))) (1 : Nat) (if i = (1 : Nat) then [At.val (Value.int IntKind.i64 (5 : Int)), At.val (Value.int IntKind.u64 tk), At.val (Value.string (ByteArray.mk #[]))] else litG (3 : Nat) [At.val (Value.int IntKind.i64 (1 : Int)), At.val (Value.int IntKind.u64 (IntKind.wrap IntKind.u64 (3 : Int))), At.val (Value.string (ByteArray.mk #[]))] i) (gF (fun (j : Nat) => if j = (0 : Nat) then { k := (1 : Int), n := (3 : Int), s := ByteArray.empty } else { k := (5 : Int), n := tk, s := ByteArray.empty }) i))]) (by kernel_rfl) (.cons (by rfl) (.cons (by rfl) (.cons (by rfl) (.cons (by trivial) (.cons (by trivial) (.cons (by rfl) (.cons (by (intro i h9; match i, h9 with | 0, _ => exact ⟨rfl, rfl, rfl, trivial⟩ | 1, _ => exact ⟨rfl, rfl, rfl, trivial⟩)) .nil))))))) (Nat.le_of_ble_eq_true (by kernel_rfl))

set_option maxHeartbeats 2000000 in
theorem fs_x (k fl id ln tk : Int) (h0 : k ≠ 0) (h1 : k ≠ 1) (h3 : k ≠ 3) (hk : IntKind.wrap IntKind.u64 k = k) : FnOk Try.prog 19 ([.nv (.agg [.val (.int .i64 k), .val (.int .u32 fl), .val (.int .u32 id), .val (.int .u64 ln), .val (.int .u64 tk)])]) ([]) (.nv (.one (.own 0))) ([.row 47 3 1 (gF (fun j => ⟨1, k, .empty⟩))]) :=
  fn_run GoC_ok Try.func19 (orc := ⟨[false, false, false], []⟩) (obl := [(k == (0 : Int)) = false,
      (k == (1 : Int)) = false,
      (k == (3 : Int)) = false,
      (1 : Nat) = (1 : Nat),
      ∀ (i : Nat), i < (1 : Nat) → AllT (leAts ([] ++ ([((0 : Nat), Bd.same (1 : Nat))] ++ []) ++ ([] ++ [] ++ ([] ++ []))) (1 : Nat) (litG (3 : Nat) [At.val (Value.int IntKind.i64 (1 : Int)), At.val (Value.int IntKind.u64 (IntKind.wrap IntKind.u64 k)), At.val (Value.string (ByteArray.mk #[]))] i) (gF (fun (j : Nat) => { k := (1 : Int), n := k, s := ByteArray.empty }) i))]) (by kernel_rfl) (.cons (by exact decide_eq_false (by omega)) (.cons (by exact decide_eq_false (by omega)) (.cons (by exact decide_eq_false (by omega)) (.cons (by rfl) (.cons (by (intro i hi; match i, hi with | 0, _ => exact ⟨rfl, hk, rfl, trivial⟩)) .nil))))) (Nat.le_of_ble_eq_true (by kernel_rfl))

set_option maxHeartbeats 2000000 in
theorem gs_0 (fl id ln tk : Int) : FnOk Try.prog 23 ([.nv (.agg [.val (.int .i64 0), .val (.int .u32 fl), .val (.int .u32 id), .val (.int .u64 ln), .val (.int .u64 tk)])]) ([]) (.nv (.one (.own 0))) ([.row 47 3 1 (gF (fun j => ⟨1, ln, .empty⟩))]) :=
  fn_run GoC_ok Try.func23 (orc := ⟨[true, false, false], []⟩) (obl := [((0 : Int) == (0 : Int)) = true,
      ((0 : Int) == (1 : Int)) = false,
      ((0 : Int) == (3 : Int)) = false,
      (1 : Nat) = (1 : Nat),
      ∀ (i : Nat), i < (1 : Nat) → AllT (leAts ([] ++ ([((0 : Nat), Bd.same (1 : Nat))] ++ []) ++ ([] ++ [] ++ ([] ++ []))) (1 : Nat) (litG (3 : Nat) [At.val (Value.int IntKind.i64 (1 : Int)), At.val (Value.int IntKind.u64 ln), At.val (Value.string (ByteArray.mk #[]))] i) (gF (fun (j : Nat) => { k := (1 : Int), n := ln, s := ByteArray.empty }) i))]) (by kernel_rfl) (.cons (by rfl) (.cons (by rfl) (.cons (by rfl) (.cons (by rfl) (.cons (by (intro i hi; match i, hi with | 0, _ => exact ⟨rfl, rfl, rfl, trivial⟩)) .nil))))) (Nat.le_of_ble_eq_true (by kernel_rfl))

set_option maxHeartbeats 2000000 in
theorem gs_1 (fl id ln tk : Int) (hf : IntKind.wrap IntKind.u64 fl = fl) (hi : IntKind.wrap IntKind.u64 id = id) : FnOk Try.prog 23 ([.nv (.agg [.val (.int .i64 1), .val (.int .u32 fl), .val (.int .u32 id), .val (.int .u64 ln), .val (.int .u64 tk)])]) ([]) (.nv (.one (.own 0))) ([.row 47 3 4 (gF (fun j => if j = 0 then ⟨1, 1, .empty⟩ else if j = 1 then ⟨3, fl, .empty⟩ else if j = 2 then ⟨3, id, .empty⟩ else ⟨5, ln, .empty⟩))]) :=
  fn_run GoC_ok Try.func23 (orc := ⟨[false, true, false], []⟩) (obl := [((1 : Int) == (0 : Int)) = false,
      ((1 : Int) == (1 : Int)) = true,
      (4 : Nat) ≤ (4611686018427387904 : Nat),
      (128 : Nat) ≤ (140737488355328 : Nat),
      ((1 : Int) == (3 : Int)) = false,
      (4 : Nat) = (4 : Nat),
      ∀ (i : Nat), i < (4 : Nat) → AllT (leAts ([] ++ ([((0 : Nat), Bd.same (3 : Nat))] ++ []) ++ ([] ++ [] ++ ([] ++ []))) (1 : Nat) (if (3 : Nat) = (1 : Nat) then if i = (1 : Nat) then [At.val (Value.int IntKind.i64 (3 : Int)), At.val (Value.int IntKind.u64 (IntKind.wrap IntKind.u64 fl)), At.val (Value.string (ByteArray.mk #[]))] else litG (3 : Nat) [At.val (Value.int IntKind.i64 (1 : Int)), At.val (Value.int IntKind.u64 (IntKind.wrap IntKind.u64 (1 : Int))), At.val (Value.string (ByteArray.mk #[]))] i else if i < (1 : Nat) then litG (3 : Nat) [At.val (Value.int IntKind.i64 (1 : Int)), At.val (Value.int IntKind.u64 (IntKind.wrap IntKind.u64 (1 : Int))), At.val (Value.string (ByteArray.mk #[]))] i else litG (3 : Nat) [At.val (Value.int IntKind.i64 (3 : Int)), At.val (Value.int IntKind.u64 (IntKind.wrap IntKind.u64 fl)), At.val (Value.string (ByteArray.mk #[])), At.val (Value.int IntKind.i64 (3 : Int)), At.val (Value.int IntKind.u64 (IntKind.wrap IntKind.u64 id)), At.val (Value.string (ByteArray.mk #[])), At.val (Value.int IntKind.i64 (5 : Int)), At.val (Value.int IntKind.u64 ln), At.val (Value.string (ByteArray.mk #[]))] (i - (1 : Nat))) (gF (fun (j : Nat) => if j = (0 : Nat) then { k := (1 : Int), n := (1 : Int), s := ByteArray.empty } else if j = (1 : Nat) then { k := (3 : Int), n := fl, s := ByteArray.empty } else if j = (2 : Nat) then { k := (3 : Int), n := id, s := ByteArray.empty } else { k := (5 : Int), n := ln, s := ByteArray.empty }) i))]) (by kernel_rfl) (.cons (by rfl) (.cons (by rfl) (.cons (by trivial) (.cons (by trivial) (.cons (by rfl) (.cons (by rfl) (.cons (by (intro i h9; match i, h9 with | 0, _ => exact ⟨rfl, rfl, rfl, trivial⟩ | 1, _ => exact ⟨rfl, hf, rfl, trivial⟩ | 2, _ => exact ⟨rfl, hi, rfl, trivial⟩ | 3, _ => exact ⟨rfl, rfl, rfl, trivial⟩)) .nil))))))) (Nat.le_of_ble_eq_true (by kernel_rfl))

set_option maxHeartbeats 2000000 in
theorem gs_3 (fl id ln tk : Int) : FnOk Try.prog 23 ([.nv (.agg [.val (.int .i64 3), .val (.int .u32 fl), .val (.int .u32 id), .val (.int .u64 ln), .val (.int .u64 tk)])]) ([]) (.nv (.one (.own 0))) ([.row 47 3 2 (gF (fun j => if j = 0 then ⟨1, 3, .empty⟩ else ⟨5, tk, .empty⟩))]) :=
  fn_run GoC_ok Try.func23 (orc := ⟨[false, false, true], []⟩) (obl := [((3 : Int) == (0 : Int)) = false,
      ((3 : Int) == (1 : Int)) = false,
      ((3 : Int) == (3 : Int)) = true,
      (2 : Nat) ≤ (4611686018427387904 : Nat),
      (64 : Nat) ≤ (140737488355328 : Nat),
      (2 : Nat) = (2 : Nat),
      ∀ (i : Nat), i < (2 : Nat) → AllT (leAts ([] ++ ([((0 : Nat), Bd.same (3 : Nat))] ++ []) ++ ([] ++ [] ++ ([] ++ []))) (1 : Nat) (if i = (1 : Nat) then [At.val (Value.int IntKind.i64 (5 : Int)), At.val (Value.int IntKind.u64 tk), At.val (Value.string (ByteArray.mk #[]))] else litG (3 : Nat) [At.val (Value.int IntKind.i64 (1 : Int)), At.val (Value.int IntKind.u64 (IntKind.wrap IntKind.u64 (3 : Int))), At.val (Value.string (ByteArray.mk #[]))] i) (gF (fun (j : Nat) => if j = (0 : Nat) then { k := (1 : Int), n := (3 : Int), s := ByteArray.empty } else { k := (5 : Int), n := tk, s := ByteArray.empty }) i))]) (by kernel_rfl) (.cons (by rfl) (.cons (by rfl) (.cons (by rfl) (.cons (by trivial) (.cons (by trivial) (.cons (by rfl) (.cons (by (intro i h9; match i, h9 with | 0, _ => exact ⟨rfl, rfl, rfl, trivial⟩ | 1, _ => exact ⟨rfl, rfl, rfl, trivial⟩)) .nil))))))) (Nat.le_of_ble_eq_true (by kernel_rfl))

set_option maxHeartbeats 2000000 in
theorem gs_x (k fl id ln tk : Int) (h0 : k ≠ 0) (h1 : k ≠ 1) (h3 : k ≠ 3) (hk : IntKind.wrap IntKind.u64 k = k) : FnOk Try.prog 23 ([.nv (.agg [.val (.int .i64 k), .val (.int .u32 fl), .val (.int .u32 id), .val (.int .u64 ln), .val (.int .u64 tk)])]) ([]) (.nv (.one (.own 0))) ([.row 47 3 1 (gF (fun j => ⟨1, k, .empty⟩))]) :=
  fn_run GoC_ok Try.func23 (orc := ⟨[false, false, false], []⟩) (obl := [(k == (0 : Int)) = false,
      (k == (1 : Int)) = false,
      (k == (3 : Int)) = false,
      (1 : Nat) = (1 : Nat),
      ∀ (i : Nat), i < (1 : Nat) → AllT (leAts ([] ++ ([((0 : Nat), Bd.same (1 : Nat))] ++ []) ++ ([] ++ [] ++ ([] ++ []))) (1 : Nat) (litG (3 : Nat) [At.val (Value.int IntKind.i64 (1 : Int)), At.val (Value.int IntKind.u64 (IntKind.wrap IntKind.u64 k)), At.val (Value.string (ByteArray.mk #[]))] i) (gF (fun (j : Nat) => { k := (1 : Int), n := k, s := ByteArray.empty }) i))]) (by kernel_rfl) (.cons (by exact decide_eq_false (by omega)) (.cons (by exact decide_eq_false (by omega)) (.cons (by exact decide_eq_false (by omega)) (.cons (by rfl) (.cons (by (intro i hi; match i, hi with | 0, _ => exact ⟨rfl, hk, rfl, trivial⟩)) .nil))))) (Nat.le_of_ble_eq_true (by kernel_rfl))

set_option maxHeartbeats 2000000 in
theorem rg_l (k fl id ln tk : Int) (h : k < 0) : PureOk Try.prog 10 ([.nv (.agg [.val (.int .i64 k), .val (.int .u32 fl), .val (.int .u32 id), .val (.int .u64 ln), .val (.int .u64 tk)])]) (bA false) :=
  pure_run GoC_ok Try.func10 (orc := ⟨[true, true, true], []⟩) (obl := [decide (k < (0 : Int)) = true,
      true = true,
      true = true,
      false = false]) (by kernel_rfl) (.cons (by exact decide_eq_true (by omega)) (.cons (by rfl) (.cons (by rfl) (.cons (by rfl) .nil))))

set_option maxHeartbeats 2000000 in
theorem rg_h (k fl id ln tk : Int) (h : 4 < k) : PureOk Try.prog 10 ([.nv (.agg [.val (.int .i64 k), .val (.int .u32 fl), .val (.int .u32 id), .val (.int .u64 ln), .val (.int .u64 tk)])]) (bA false) :=
  pure_run GoC_ok Try.func10 (orc := ⟨[false, true, true], []⟩) (obl := [decide (k < (0 : Int)) = false,
      decide (k > (4 : Int)) = true,
      true = true,
      false = false]) (by kernel_rfl) (.cons (by exact decide_eq_false (by omega)) (.cons (by exact decide_eq_true (by omega)) (.cons (by rfl) (.cons (by rfl) .nil))))
end Go.Proofs.Ytecgigeahkijaaa

/- ops: bare, fields, and the document's Right, as specifications. No condition. -/
namespace Go.Proofs.Ytecgigeahkijaaa
set_option linter.unusedVariables false
set_option linter.unusedSimpArgs false
open Go.RowKit E
def rgt (x : Op5) : Bool :=
  if x.k = 1 then x.tk == 0
  else if x.fl ≠ 0 then false
  else if x.id ≠ 0 then false
  else if x.k = 0 then (if x.tk ≠ 0 then false else if ¬ x.ln < 256 then false else if x.ln = 0 then true else decide (x.ln > 4))
  else if x.k = 3 then x.ln == 0
  else if x.k = 2 ∨ x.k = 4 then (if x.ln ≠ 0 then false else x.tk == 0)
  else false
def fldN (x : Op5) : Nat := if x.k = 1 then 4 else if x.k = 3 then 2 else 1
def fldF (x : Op5) : Nat → Fl := fun j =>
  if x.k = 1 then (if j = 0 then ⟨1, 1, .empty⟩ else if j = 1 then ⟨3, x.fl, .empty⟩ else if j = 2 then ⟨3, x.id, .empty⟩ else ⟨5, x.ln, .empty⟩)
  else if x.k = 3 then (if j = 0 then ⟨1, 3, .empty⟩ else ⟨5, x.tk, .empty⟩)
  else if x.k = 0 then ⟨1, x.ln, .empty⟩ else ⟨1, x.k, .empty⟩
def gBare : List SV → Option (SV × List Prop)
  | [.nv (.agg [.val (.int .i64 k), .val (.int .u32 fl), .val (.int .u32 id), .val (.int .u64 ln), .val (.int .u64 tk)])] => some (.nv (.agg [.val (.int .i64 k), .val (.int .u32 (if k = 1 then fl else 0)), .val (.int .u32 (if k = 1 then id else 0)), .val (.int .u64 (if k = 1 ∨ k = 0 then ln else 0)), .val (.int .u64 (if k = 3 then tk else 0))]), [])
  | _ => none
theorem spBare : SpOk Try.prog 17 (pureS gBare) := pureS_ok (by
  intro args r obl h ho
  unfold gBare at h
  split at h
  · rename_i k fl id ln tk
    simp only [Option.some.injEq, Prod.mk.injEq] at h
    obtain ⟨rfl, rfl⟩ := h
    refine ⟨rfl, rfl, ?_⟩
    by_cases k0 : k = 0
    · subst k0; exact br_0 fl id ln tk
    · by_cases k1 : k = 1
      · subst k1; exact br_1 fl id ln tk
      · by_cases k3 : k = 3
        · subst k3; exact br_3 fl id ln tk
        · rw [if_neg k1, if_neg k1, if_neg (by omega), if_neg k3]; exact br_x k fl id ln tk k0 k1 k3
  · cases h)
def gRightQ : List SV → Option (SV × List Prop)
  | [.nv (.agg [.val (.int .i64 k), .val (.int .u32 fl), .val (.int .u32 id), .val (.int .u64 ln), .val (.int .u64 tk)])] => some (bA (rgt ⟨k, fl, id, ln, tk⟩), [])
  | _ => none
theorem spRightQ : SpOk Try.prog 11 (pureS gRightQ) := pureS_ok (by
  intro args r obl h ho
  unfold gRightQ at h
  split at h
  · rename_i k fl id ln tk
    simp only [Option.some.injEq, Prod.mk.injEq] at h
    obtain ⟨rfl, rfl⟩ := h
    refine ⟨rfl, rfl, ?_⟩
    unfold rgt
    simp only
    by_cases k1 : k = 1
    · subst k1; exact rq_1 fl id ln tk
    · rw [if_neg k1]
      by_cases hf : fl = 0
      · rw [if_neg (by omega)]
        by_cases hi : id = 0
        · rw [if_neg (by omega)]
          subst hf; subst hi
          by_cases k0 : k = 0
          · subst k0
            rw [if_pos rfl]
            by_cases ht : tk = 0
            · subst ht
              rw [if_neg (by omega)]
              by_cases hl : ln < 256
              · rw [if_neg (fun q => q hl)]
                by_cases hz : ln = 0
                · subst hz; exact rq_0z
                · rw [if_neg hz]; exact rq_0g ln hl hz
              · rw [if_pos hl]; exact rq_0l ln hl
            · rw [if_pos ht]; exact rq_0t ln tk ht
          · rw [if_neg k0]
            by_cases k3 : k = 3
            · subst k3; exact rq_3 ln tk
            · rw [if_neg k3]
              by_cases k24 : k = 2 ∨ k = 4
              · rw [if_pos k24]
                by_cases hl : ln = 0
                · subst hl
                  rw [if_neg (by omega)]
                  rcases k24 with rfl | rfl
                  · exact rq_2 tk
                  · exact rq_4 tk
                · rw [if_pos hl]
                  rcases k24 with rfl | rfl
                  · exact rq_2l ln tk hl
                  · exact rq_4l ln tk hl
              · rw [if_neg k24]; exact rq_x k ln tk k0 k1 (by omega) k3 (by omega)
        · rw [if_pos hi]; exact rq_i k fl id ln tk k1 hf hi
      · rw [if_pos hf]; exact rq_f k fl id ln tk k1 hf
  · cases h)
def gFld : List SV → List Seg → Option (CS × List Prop)
  | [.nv (.agg [.val (.int .i64 k), .val (.int .u32 fl), .val (.int .u32 id), .val (.int .u64 ln), .val (.int .u64 tk)])], _ => some (⟨[.nv (.agg [.val (.int .i64 k), .val (.int .u32 fl), .val (.int .u32 id), .val (.int .u64 ln), .val (.int .u64 tk)])], [], .nv (.one (.own 0)), [.row 47 3 (fldN ⟨k, fl, id, ln, tk⟩) (gF (fldF ⟨k, fl, id, ln, tk⟩))]⟩, [0 ≤ k, k ≤ 4, 0 ≤ fl, fl < 4294967296, 0 ≤ id, id < 4294967296])
  | _, _ => none
theorem fnFldF (k fl id ln tk : Int) (h0 : 0 ≤ k) (h4 : k ≤ 4) (f0 : 0 ≤ fl) (f1 : fl < 4294967296) (i0 : 0 ≤ id) (i1 : id < 4294967296) :
    FnOk Try.prog 19 [.nv (.agg [.val (.int .i64 k), .val (.int .u32 fl), .val (.int .u32 id), .val (.int .u64 ln), .val (.int .u64 tk)])] [] (.nv (.one (.own 0))) [.row 47 3 (fldN ⟨k, fl, id, ln, tk⟩) (gF (fldF ⟨k, fl, id, ln, tk⟩))] := by
  by_cases k1 : k = 1
  · subst k1; exact fs_1 fl id ln tk (wU64 rfl (by omega)) (wU64 rfl (by omega))
  · by_cases k3 : k = 3
    · subst k3; exact fs_3 fl id ln tk
    · by_cases k0 : k = 0
      · subst k0; exact fs_0 fl id ln tk
      · have e1 : fldN ⟨k, fl, id, ln, tk⟩ = 1 := by unfold fldN; simp only; rw [if_neg k1, if_neg k3]
        have e2 : fldF ⟨k, fl, id, ln, tk⟩ = fun j => ⟨1, k, .empty⟩ := by unfold fldF; funext j; simp only; rw [if_neg k1, if_neg k3, if_neg k0]
        rw [e1, e2]
        exact fs_x k fl id ln tk k0 k1 k3 (wU64 rfl (by omega))
theorem spFldF : SpOk Try.prog 19 (.lift gFld) := by
  intro args mem cs obl h ho
  unfold gFld at h
  split at h
  · rename_i k fl id ln tk
    simp only [Option.some.injEq, Prod.mk.injEq] at h
    obtain ⟨rfl, rfl⟩ := h
    obtain ⟨o1, o2, o3, o4, o5, o6, _⟩ := ho
    exact fnFldF k fl id ln tk o1 o2 o3 o4 o5 o6
  · cases h
theorem fnFldG (k fl id ln tk : Int) (h0 : 0 ≤ k) (h4 : k ≤ 4) (f0 : 0 ≤ fl) (f1 : fl < 4294967296) (i0 : 0 ≤ id) (i1 : id < 4294967296) :
    FnOk Try.prog 23 [.nv (.agg [.val (.int .i64 k), .val (.int .u32 fl), .val (.int .u32 id), .val (.int .u64 ln), .val (.int .u64 tk)])] [] (.nv (.one (.own 0))) [.row 47 3 (fldN ⟨k, fl, id, ln, tk⟩) (gF (fldF ⟨k, fl, id, ln, tk⟩))] := by
  by_cases k1 : k = 1
  · subst k1; exact gs_1 fl id ln tk (wU64 rfl (by omega)) (wU64 rfl (by omega))
  · by_cases k3 : k = 3
    · subst k3; exact gs_3 fl id ln tk
    · by_cases k0 : k = 0
      · subst k0; exact gs_0 fl id ln tk
      · have e1 : fldN ⟨k, fl, id, ln, tk⟩ = 1 := by unfold fldN; simp only; rw [if_neg k1, if_neg k3]
        have e2 : fldF ⟨k, fl, id, ln, tk⟩ = fun j => ⟨1, k, .empty⟩ := by unfold fldF; funext j; simp only; rw [if_neg k1, if_neg k3, if_neg k0]
        rw [e1, e2]
        exact gs_x k fl id ln tk k0 k1 k3 (wU64 rfl (by omega))
theorem spFldG : SpOk Try.prog 23 (.lift gFld) := by
  intro args mem cs obl h ho
  unfold gFld at h
  split at h
  · rename_i k fl id ln tk
    simp only [Option.some.injEq, Prod.mk.injEq] at h
    obtain ⟨rfl, rfl⟩ := h
    obtain ⟨o1, o2, o3, o4, o5, o6, _⟩ := ho
    exact fnFldG k fl id ln tk o1 o2 o3 o4 o5 o6
  · cases h
def GoD : List (FuncId × Sp) := (17, pureS gBare) :: (11, pureS gRightQ) :: (19, .lift gFld) :: (23, .lift gFld) :: GoC
theorem GoD_ok : CtxOk Try.prog GoD := ctx_cons (enter_of Try.func17 (by kernel_rfl) (by kernel_rfl)) spBare <|
  ctx_cons (enter_of Try.func11 (by kernel_rfl) (by kernel_rfl)) spRightQ <|
  ctx_cons (enter_of Try.func19 (by kernel_rfl) (by kernel_rfl)) spFldF <|
  ctx_cons (enter_of Try.func23 (by kernel_rfl) (by kernel_rfl)) spFldG GoC_ok
end Go.Proofs.Ytecgigeahkijaaa
