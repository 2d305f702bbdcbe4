/- Runs of Go code, as printed by a program: no condition beyond those that each states. -/
import Derived.Test.YtecgigeahkijaaaWrL
import Derived.Test.YtecgigeahkijaaaChecked
import Derived.KernelRfl
namespace Go.Proofs.Ytecgigeahkijaaa
set_option linter.unusedVariables false
set_option linter.unusedSimpArgs false
set_option maxRecDepth 100000
open Go.RowKit E
set_option maxHeartbeats 2000000 in
theorem pt_n (n N i : Nat) (F H : Nat → Int) (k v b : Int) (s : ByteArray) (hi : i ≤ 8) (hn : n + 1 ≤ 140737488355328) (eb : IntKind.wrap IntKind.u8 (Int.fdiv v (2 ^ Nat.min (IntKind.wrap IntKind.i64 (8 * (i : Int))).toNat 64)) = b) (ei : IntKind.wrap IntKind.i64 (8 * (i : Int)) = 8 * i) (e3 : n + 1 = N) (e4 : ∀ j, j < n + 1 → catF n F [b] j = H j) : CodeOk Try.prog 2 (loopOf Try.f27 0) (mkSt 41 [(0, .nv (.one (.ptr 0 0))), (3, .nv (.one (.ptr 2 0))), (4, iA i)] [.box 52 [.optr 0, .own 3], .gone, .box 47 [.val (.int .i64 k), .val (.int .u64 v), .val (.string s)], .row 5 1 n (gB F)]) .normal (mkSt 41 [(0, .nv (.one (.ptr 0 0))), (3, .nv (.one (.ptr 2 0))), (4, iA ((i : Int) - 1))] [.box 52 [.optr 0, .own 3], .gone, .box 47 [.val (.int .i64 k), .val (.int .u64 v), .val (.string s)], .row 5 1 N (gB H)]) :=
  code_run Gb6_ok (orc := ⟨[true], []⟩) (obl := [decide ((↑i : Int) ≥ (0 : Int)) = true,
      (0 : Int) ≤ IntKind.wrap IntKind.i64 ((8 : Int) * (↑i : Int)),
      n + (1 : Nat) ≤ (140737488355328 : Nat),
      (0 : Nat) = (0 : Nat),
      IntKind.wrap IntKind.u8 (Int.fdiv v ((2 : Int) ^ min (Int.toNat (IntKind.wrap IntKind.i64 ((8 : Int) * (↑i : Int)))) (IntKind.bits IntKind.u64))) = IntKind.wrap IntKind.u8 (Int.fdiv v ((2 : Int) ^ min (Int.toNat (IntKind.wrap IntKind.i64 ((8 : Int) * (↑i : Int)))) (IntKind.bits IntKind.u64))),
      n = n,
      ∀ (i : Nat), i < n → F i = F i ∧ True,
      ∀ (i : Nat), i < n + (1 : Nat) → (true && true) = true,
      (0 : Nat) = (0 : Nat),
      (0 : Nat) = (0 : Nat),
      IntKind.wrap IntKind.i64 ((↑i : Int) - (1 : Int)) = (↑i : Int) - (1 : Int),
      k = k,
      v = v,
      s = s,
      n + (1 : Nat) = N,
      ∀ (i_1 : Nat), i_1 < n + (1 : Nat) → catF n (fun (k : Nat) => F k) [IntKind.wrap IntKind.u8 (Int.fdiv v ((2 : Int) ^ min (Int.toNat (IntKind.wrap IntKind.i64 ((8 : Int) * (↑i : Int)))) (IntKind.bits IntKind.u64)))] i_1 = H i_1 ∧ True]) (by kernel_rfl) (.cons (by rfl) (.cons (by (rw [ei]; omega)) (.cons (by assumption) (.cons (by rfl) (.cons (by rfl) (.cons (by rfl) (.cons (by (intro _ _; exact ⟨rfl, trivial⟩)) (.cons (by (intro _ _; rfl)) (.cons (by rfl) (.cons (by rfl) (.cons (by exact w64 (by omega) (by omega)) (.cons (by rfl) (.cons (by rfl) (.cons (by rfl) (.cons (by assumption) (.cons (by (intro j hj; exact ⟨by rw [← e4 j hj, ← eb]; rfl, trivial⟩)) .nil)))))))))))))))) (Nat.le_of_ble_eq_true (by kernel_rfl))

set_option maxHeartbeats 2000000 in
theorem pt_e (n : Nat) (F : Nat → Int) (k v : Int) (s : ByteArray) : CodeOk Try.prog 2 (loopOf Try.f27 0) (mkSt 41 [(0, .nv (.one (.ptr 0 0))), (3, .nv (.one (.ptr 2 0))), (4, iA (-1))] [.box 52 [.optr 0, .own 3], .gone, .box 47 [.val (.int .i64 k), .val (.int .u64 v), .val (.string s)], .row 5 1 n (gB F)]) (.exit 1) (mkSt 41 [(0, .nv (.one (.ptr 0 0))), (3, .nv (.one (.ptr 2 0))), (4, iA (-1))] [.box 52 [.optr 0, .own 3], .gone, .box 47 [.val (.int .i64 k), .val (.int .u64 v), .val (.string s)], .row 5 1 n (gB F)]) :=
  code_run Gb6_ok (orc := ⟨[false], []⟩) (obl := [decide ((-1 : Int) ≥ (0 : Int)) = false,
      (0 : Nat) = (0 : Nat),
      (0 : Nat) = (0 : Nat),
      (-1 : Int) = (-1 : Int),
      k = k,
      v = v,
      s = s,
      n = n,
      ∀ (i : Nat), i < n → F i = F i ∧ True]) (by kernel_rfl) (.cons (by rfl) (.cons (by rfl) (.cons (by rfl) (.cons (by rfl) (.cons (by rfl) (.cons (by rfl) (.cons (by rfl) (.cons (by rfl) (.cons (by (intro _ _; exact ⟨rfl, trivial⟩)) .nil))))))))) (Nat.le_of_ble_eq_true (by kernel_rfl))

set_option maxHeartbeats 2000000 in
theorem pt_w (n N : Nat) (F F0 H : Nat → Int) (k v w : Int) (s : ByteArray) (h5 : k ≠ 5) (h6 : k ≠ 6) (e0 : ∀ i, i < n → F i = F0 i) (ew : IntKind.wrap IntKind.i64 (widthZ k - 1) = w) (l0 : CodeOk Try.prog 2 (.loop (loopOf Try.f27 0)) (mkSt 41 [(0, .nv (.one (.ptr 0 0))), (3, .nv (.one (.ptr 2 0))), (4, iA w)] [.box 52 [.optr 0, .own 3], .gone, .box 47 [.val (.int .i64 k), .val (.int .u64 v), .val (.string s)], .row 5 1 n (gB F0)]) (.exit 1) (mkSt 41 [(0, .nv (.one (.ptr 0 0))), (3, .nv (.one (.ptr 2 0))), (4, iA (-1))] [.box 52 [.optr 0, .own 3], .gone, .box 47 [.val (.int .i64 k), .val (.int .u64 v), .val (.string s)], .row 5 1 N (gB H)])) : FnOk Try.prog 27 ([.nv (.one (.ptr 0 0)), .nv (.agg [.val (.int .i64 k), .val (.int .u64 v), .val (.string s)])]) (bldM n F) (.any) (bldP N H) :=
  fn_run Gb6_ok Try.func27 (orc := ⟨[false, false], [⟨mkSt 41 [(0, .nv (.one (.ptr 0 0))), (3, .nv (.one (.ptr 2 0))), (4, iA w)] [.box 52 [.optr 0, .own 3], .gone, .box 47 [.val (.int .i64 k), .val (.int .u64 v), .val (.string s)], .row 5 1 n (gB F0)], .exit 1, mkSt 41 [(0, .nv (.one (.ptr 0 0))), (3, .nv (.one (.ptr 2 0))), (4, iA (-1))] [.box 52 [.optr 0, .own 3], .gone, .box 47 [.val (.int .i64 k), .val (.int .u64 v), .val (.string s)], .row 5 1 N (gB H)]⟩]⟩) (obl := [(k == (5 : Int)) = false,
      (k == (6 : Int)) = false,
      (0 : Nat) = (0 : Nat),
      (0 : Nat) = (0 : Nat),
      IntKind.wrap IntKind.i64 (widthZ k - (1 : Int)) = w,
      k = k,
      v = v,
      s = s,
      n = n,
      ∀ (i : Nat), i < n → F i = F0 i ∧ True,
      (2 : Nat) ≤ (4 : Nat),
      CodeOk Try.prog (2 : Nat) (Code.loop (loopOf Try.f27 (0 : Nat))) (mkSt (41 : Nat) [((0 : Nat), SV.nv (NV.one (At.ptr (0 : Nat) (0 : Nat)))), ((3 : Nat), SV.nv (NV.one (At.ptr (2 : Nat) (0 : Nat)))), ((4 : Nat), iA w)] [Seg.box (52 : TypeId) [At.optr (0 : Nat), At.own (3 : Nat)], Seg.gone, Seg.box (47 : TypeId) [At.val (Value.int IntKind.i64 k), At.val (Value.int IntKind.u64 v), At.val (Value.string s)], Seg.row (5 : TypeId) (1 : Nat) n (gB F0)]) (Ex.exit (1 : Nat)) (mkSt (41 : Nat) [((0 : Nat), SV.nv (NV.one (At.ptr (0 : Nat) (0 : Nat)))), ((3 : Nat), SV.nv (NV.one (At.ptr (2 : Nat) (0 : Nat)))), ((4 : Nat), iA (-1 : Int))] [Seg.box (52 : TypeId) [At.optr (0 : Nat), At.own (3 : Nat)], Seg.gone, Seg.box (47 : TypeId) [At.val (Value.int IntKind.i64 k), At.val (Value.int IntKind.u64 v), At.val (Value.string s)], Seg.row (5 : TypeId) (1 : Nat) N (gB H)]),
      N = N,
      ∀ (i : Nat), i < N → H i = H i ∧ True]) (by kernel_rfl) (.cons (by exact decide_eq_false (by omega)) (.cons (by exact decide_eq_false (by omega)) (.cons (by rfl) (.cons (by rfl) (.cons (by assumption) (.cons (by rfl) (.cons (by rfl) (.cons (by rfl) (.cons (by rfl) (.cons (by (intro i hi; exact ⟨e0 i hi, trivial⟩)) (.cons (by trivial) (.cons (by assumption) (.cons (by rfl) (.cons (by (intro _ _; exact ⟨rfl, trivial⟩)) .nil)))))))))))))) (Nat.le_of_ble_eq_true (by kernel_rfl))

set_option maxHeartbeats 2000000 in
theorem pt_5 (n : Nat) (F : Nat → Int) (v : Int) (s : ByteArray) (h0 : 0 ≤ v) (h1 : v ≤ 18446744073709551615) (hn : n + 10 ≤ 140737488355328) : FnOk Try.prog 27 ([.nv (.one (.ptr 0 0)), .nv (.agg [.val (.int .i64 5), .val (.int .u64 v), .val (.string s)])]) (bldM n F) (.any) (bldP (n + (varL 9 v).length) (catF n F (varL 9 v))) :=
  fn_run Gb6_ok Try.func27 (orc := ⟨[true], []⟩) (obl := [((5 : Int) == (5 : Int)) = true,
      (0 : Int) ≤ v,
      v ≤ (18446744073709551615 : Int),
      n + (10 : Nat) ≤ (140737488355328 : Nat),
      (0 : Nat) = (0 : Nat),
      v = v,
      n = n,
      ∀ (i : Nat), i < n → F i = F i ∧ True,
      ∀ (i : Nat), i < n + List.length (varL (9 : Nat) v) → (true && true) = true,
      n + List.length (varL (9 : Nat) v) = n + List.length (varL (9 : Nat) v),
      ∀ (i : Nat), i < n + List.length (varL (9 : Nat) v) → catF n (fun (k : Nat) => F k) (varL (9 : Nat) v) i = catF n F (varL (9 : Nat) v) i ∧ True]) (by kernel_rfl) (.cons (by rfl) (.cons (by assumption) (.cons (by assumption) (.cons (by assumption) (.cons (by rfl) (.cons (by rfl) (.cons (by rfl) (.cons (by (intro i hi; exact ⟨rfl, trivial⟩)) (.cons (by (intro _ _; rfl)) (.cons (by rfl) (.cons (by (intro i hi; exact ⟨rfl, trivial⟩)) .nil))))))))))) (Nat.le_of_ble_eq_true (by kernel_rfl))

set_option maxHeartbeats 2000000 in
theorem pt_6 (n N : Nat) (F H : Nat → Int) (v : Int) (s : ByteArray) (hs : s.size ≤ 65535) (hl : (varL 9 s.size).length ≤ 10) (hn : n + 65546 ≤ 140737488355328) (ew : IntKind.wrap IntKind.u64 (s.size : Int) = s.size) (e1 : n + (varL 9 s.size).length + s.size = N) (e2 : ∀ i, i < N → catF (n + (varL 9 s.size).length) (catF n F (varL 9 s.size)) (ints s) i = H i) : FnOk Try.prog 27 ([.nv (.one (.ptr 0 0)), .nv (.agg [.val (.int .i64 6), .val (.int .u64 v), .val (.string s)])]) (bldM n F) (.any) (bldP N H) :=
  fn_run Gb6_ok Try.func27 (orc := ⟨[false, true], []⟩) (obl := [((6 : Int) == (5 : Int)) = false,
      ((6 : Int) == (6 : Int)) = true,
      (0 : Int) ≤ IntKind.wrap IntKind.u64 (↑(ByteArray.size s) : Int),
      IntKind.wrap IntKind.u64 (↑(ByteArray.size s) : Int) ≤ (18446744073709551615 : Int),
      n + (10 : Nat) ≤ (140737488355328 : Nat),
      (0 : Nat) = (0 : Nat),
      IntKind.wrap IntKind.u64 (↑(ByteArray.size s) : Int) = IntKind.wrap IntKind.u64 (↑(ByteArray.size s) : Int),
      n = n,
      ∀ (i : Nat), i < n → F i = F i ∧ True,
      ∀ (i : Nat), i < n + List.length (varL (9 : Nat) (IntKind.wrap IntKind.u64 (↑(ByteArray.size s) : Int))) → (true && true) = true,
      n + List.length (varL (9 : Nat) (IntKind.wrap IntKind.u64 (↑(ByteArray.size s) : Int))) + ByteArray.size s ≤ (140737488355328 : Nat),
      (0 : Nat) = (0 : Nat),
      s = s,
      n + List.length (varL (9 : Nat) (IntKind.wrap IntKind.u64 (↑(ByteArray.size s) : Int))) = n + List.length (varL (9 : Nat) (IntKind.wrap IntKind.u64 (↑(ByteArray.size s) : Int))),
      ∀ (i : Nat), i < n + List.length (varL (9 : Nat) (IntKind.wrap IntKind.u64 (↑(ByteArray.size s) : Int))) → catF n (fun (k : Nat) => F k) (varL (9 : Nat) (IntKind.wrap IntKind.u64 (↑(ByteArray.size s) : Int))) i = catF n (fun (k : Nat) => F k) (varL (9 : Nat) (IntKind.wrap IntKind.u64 (↑(ByteArray.size s) : Int))) i ∧ True,
      ∀ (i : Nat), i < n + List.length (varL (9 : Nat) (IntKind.wrap IntKind.u64 (↑(ByteArray.size s) : Int))) + ByteArray.size s → (true && true) = true,
      n + List.length (varL (9 : Nat) (IntKind.wrap IntKind.u64 (↑(ByteArray.size s) : Int))) + ByteArray.size s = N,
      ∀ (i : Nat), i < n + List.length (varL (9 : Nat) (IntKind.wrap IntKind.u64 (↑(ByteArray.size s) : Int))) + ByteArray.size s → catF (n + List.length (varL (9 : Nat) (IntKind.wrap IntKind.u64 (↑(ByteArray.size s) : Int)))) (fun (k : Nat) => catF n (fun (k : Nat) => F k) (varL (9 : Nat) (IntKind.wrap IntKind.u64 (↑(ByteArray.size s) : Int))) k) (ints s) i = H i ∧ True]) (by kernel_rfl) (.cons (by rfl) (.cons (by rfl) (.cons (by (rw [ew]; omega)) (.cons (by (rw [ew]; omega)) (.cons (by omega) (.cons (by rfl) (.cons (by rfl) (.cons (by rfl) (.cons (by (intro _ _; exact ⟨rfl, trivial⟩)) (.cons (by (intro _ _; rfl)) (.cons (by (rw [ew]; omega)) (.cons (by rfl) (.cons (by rfl) (.cons (by rfl) (.cons (by (intro _ _; exact ⟨rfl, trivial⟩)) (.cons (by (intro _ _; rfl)) (.cons (by (rw [ew]; omega)) (.cons (by (intro i hi; rw [ew] at hi ⊢; exact ⟨e2 i (by omega), trivial⟩)) .nil)))))))))))))))))) (Nat.le_of_ble_eq_true (by kernel_rfl))
end Go.Proofs.Ytecgigeahkijaaa
