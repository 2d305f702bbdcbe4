/- Runs of Go code, as printed by a program: no condition beyond those that each states. -/
import Derived.Test.YtkgkelfdmkginaaRnB
import Derived.Test.YtkgkelfdmkginaaChecked
import Derived.KernelRfl
namespace Go.Proofs.Ytkgkelfdmkginaa
set_option linter.unusedVariables false
set_option linter.unusedSimpArgs false
set_option maxRecDepth 100000
open Go.RowKit E
set_option maxHeartbeats 2000000 in
theorem contains (n : Nat) (T : Nat → Int) (x : Int) (hn : n ≤ 4611686018427387904) : FnOk Try.prog 33 ([.nv (.one (.own 0)), .nv (.one (.val (.int .u32 x)))]) ([.ro 1 n (gU32 T)]) (bA (decide (0 ≤ idx T x n))) ([.ro 1 n (gU32 T)]) :=
  fn_run Grn_ok Try.func33 (orc := ⟨[], []⟩) (obl := [n ≤ (4611686018427387904 : Nat),
      x = x,
      n = n,
      ∀ (i : Nat), i < n → T i = colOf (gU32 T) i ∧ True,
      decide (idx (colOf (gU32 T)) x n ≥ (0 : Int)) = decide ((0 : Int) ≤ idx T x n),
      n = n,
      ∀ (i : Nat), i < n → T i = T i ∧ True]) (by kernel_rfl) (.cons (by assumption) (.cons (by rfl) (.cons (by rfl) (.cons (by (intro _ _; exact ⟨rfl, trivial⟩)) (.cons (by rfl) (.cons (by rfl) (.cons (by (intro _ _; exact ⟨rfl, trivial⟩)) .nil))))))) (Nat.le_of_ble_eq_true (by kernel_rfl))

set_option maxHeartbeats 2000000 in
theorem ifx_e (n : Nat) (F : Fl) (x : Int) : CodeOk Try.prog 2 (loopOf Try.f23 0) (mkSt 19 [(0, .nv (.one (.own 0))), (1, .nv (.one (.clo 24 [.ptr 1 0]))), (6, .nv (.one (.own 0))), (7, iA n), (8, iA n)] [.ro 5 n (gFl F), .robox 32 [.val (.int .u32 x)]]) (.exit 0) (mkSt 19 [] [.ro 5 n (gFl F), .robox 32 [.val (.int .u32 x)]]) :=
  code_run Grn_ok (orc := ⟨[false], []⟩) (obl := [decide ((↑n : Int) < (↑n : Int)) = false,
      n = n,
      ∀ (i : Nat), i < n → Fl.id F i = Fl.id F i ∧ Fl.co F i = Fl.co F i ∧ Fl.bu F i = Fl.bu F i ∧ Fl.si F i = Fl.si F i ∧ Fl.ca F i = Fl.ca F i ∧ True,
      x = x]) (by kernel_rfl) (.cons (by exact decide_eq_false (by omega)) (.cons (by rfl) (.cons (by (simp; done)) (.cons (by rfl) .nil)))) (Nat.le_of_ble_eq_true (by kernel_rfl))

set_option maxHeartbeats 2000000 in
theorem ifx_f (n k : Nat) (F : Fl) (x : Int) (hk : k < n) (hx : F.id k = x) (hn : n ≤ 4611686018427387904) : CodeOk Try.prog 2 (loopOf Try.f23 0) (mkSt 19 [(0, .nv (.one (.own 0))), (1, .nv (.one (.clo 24 [.ptr 1 0]))), (6, .nv (.one (.own 0))), (7, iA n), (8, iA k)] [.ro 5 n (gFl F), .robox 32 [.val (.int .u32 x)]]) .ret (mkSt 19 [(4, iA k)] [.ro 5 n (gFl F), .robox 32 [.val (.int .u32 x)]]) :=
  code_run Grn_ok (orc := ⟨[true, true], []⟩) (obl := [decide ((↑k : Int) < (↑n : Int)) = true,
      (0 : Int) ≤ (↑k : Int),
      (↑k : Int) < (↑n : Int),
      Int.toNat (↑k : Int) < n,
      Fl.id F (Int.toNat (↑k : Int)) = Fl.id F (Int.toNat (↑k : Int)),
      Fl.co F (Int.toNat (↑k : Int)) = Fl.co F (Int.toNat (↑k : Int)),
      Fl.bu F (Int.toNat (↑k : Int)) = Fl.bu F (Int.toNat (↑k : Int)),
      Fl.si F (Int.toNat (↑k : Int)) = Fl.si F (Int.toNat (↑k : Int)),
      Fl.ca F (Int.toNat (↑k : Int)) = Fl.ca F (Int.toNat (↑k : Int)),
      (0 : Nat) = (0 : Nat),
      x = x,
      (Fl.id F (Int.toNat (↑k : Int)) == x) = true,
      (↑k : Int) = (↑k : Int),
      n = n,
      ∀ (i : Nat), i < n → Fl.id F i = Fl.id F i ∧ Fl.co F i = Fl.co F i ∧ Fl.bu F i = Fl.bu F i ∧ Fl.si F i = Fl.si F i ∧ Fl.ca F i = Fl.ca F i ∧ True,
      x = x]) (by kernel_rfl) (.cons (by exact decide_eq_true (by omega)) (.cons (by omega) (.cons (by omega) (.cons (by assumption) (.cons (by rfl) (.cons (by rfl) (.cons (by rfl) (.cons (by rfl) (.cons (by rfl) (.cons (by rfl) (.cons (by rfl) (.cons (by (simp [*]; done)) (.cons (by rfl) (.cons (by rfl) (.cons (by (simp; done)) (.cons (by rfl) .nil)))))))))))))))) (Nat.le_of_ble_eq_true (by kernel_rfl))

set_option maxHeartbeats 2000000 in
theorem ifx_n (n k : Nat) (F : Fl) (x : Int) (hk : k < n) (hx : F.id k ≠ x) (hn : n ≤ 4611686018427387904) : CodeOk Try.prog 2 (loopOf Try.f23 0) (mkSt 19 [(0, .nv (.one (.own 0))), (1, .nv (.one (.clo 24 [.ptr 1 0]))), (6, .nv (.one (.own 0))), (7, iA n), (8, iA k)] [.ro 5 n (gFl F), .robox 32 [.val (.int .u32 x)]]) .normal (mkSt 19 [(0, .nv (.one (.own 0))), (1, .nv (.one (.clo 24 [.ptr 1 0]))), (6, .nv (.one (.own 0))), (7, iA n), (8, iA (k + 1 : Nat))] [.ro 5 n (gFl F), .robox 32 [.val (.int .u32 x)]]) :=
  code_run Grn_ok (orc := ⟨[true, false], []⟩) (obl := [decide ((↑k : Int) < (↑n : Int)) = true,
      (0 : Int) ≤ (↑k : Int),
      (↑k : Int) < (↑n : Int),
      Int.toNat (↑k : Int) < n,
      Fl.id F (Int.toNat (↑k : Int)) = Fl.id F (Int.toNat (↑k : Int)),
      Fl.co F (Int.toNat (↑k : Int)) = Fl.co F (Int.toNat (↑k : Int)),
      Fl.bu F (Int.toNat (↑k : Int)) = Fl.bu F (Int.toNat (↑k : Int)),
      Fl.si F (Int.toNat (↑k : Int)) = Fl.si F (Int.toNat (↑k : Int)),
      Fl.ca F (Int.toNat (↑k : Int)) = Fl.ca F (Int.toNat (↑k : Int)),
      (0 : Nat) = (0 : Nat),
      x = x,
      (Fl.id F (Int.toNat (↑k : Int)) == x) = false,
      (0 : Nat) = (0 : Nat),
      (↑n : Int) = (↑n : Int),
      IntKind.wrap IntKind.i64 ((↑k : Int) + (1 : Int)) = (↑(k + (1 : Nat)) : Int),
      n = n,
      ∀ (i : Nat), i < n → Fl.id F i = Fl.id F i ∧ Fl.co F i = Fl.co F i ∧ Fl.bu F i = Fl.bu F i ∧ Fl.si F i = Fl.si F i ∧ Fl.ca F i = Fl.ca F i ∧ True,
      x = x]) (by kernel_rfl) (.cons (by exact decide_eq_true (by omega)) (.cons (by omega) (.cons (by omega) (.cons (by assumption) (.cons (by rfl) (.cons (by rfl) (.cons (by rfl) (.cons (by rfl) (.cons (by rfl) (.cons (by rfl) (.cons (by rfl) (.cons (by (simp [*]; done)) (.cons (by rfl) (.cons (by rfl) (.cons (by exact w64 (by omega) (by omega)) (.cons (by rfl) (.cons (by (simp; done)) (.cons (by rfl) .nil)))))))))))))))))) (Nat.le_of_ble_eq_true (by kernel_rfl))

set_option maxHeartbeats 2000000 in
theorem ifx_no (n : Nat) (F : Fl) (x : Int) (l : CodeOk Try.prog 2 (.loop (loopOf Try.f23 0)) (mkSt 19 [(0, .nv (.one (.own 0))), (1, .nv (.one (.clo 24 [.ptr 1 0]))), (6, .nv (.one (.own 0))), (7, iA n), (8, iA (0 : Nat))] [.ro 5 n (gFl F), .robox 32 [.val (.int .u32 x)]]) (.exit 0) (mkSt 19 [] [.ro 5 n (gFl F), .robox 32 [.val (.int .u32 x)]])) : FnOk Try.prog 23 ([.nv (.one (.own 0)), .nv (.one (.clo 24 [.ptr 1 0]))]) ([.ro 5 n (gFl F), .robox 32 [.val (.int .u32 x)]]) (iA (-1)) ([.ro 5 n (gFl F), .robox 32 [.val (.int .u32 x)]]) :=
  fn_run Grn_ok Try.func23 (orc := ⟨[], [⟨mkSt 19 [(0, .nv (.one (.own 0))), (1, .nv (.one (.clo 24 [.ptr 1 0]))), (6, .nv (.one (.own 0))), (7, iA n), (8, iA (0 : Nat))] [.ro 5 n (gFl F), .robox 32 [.val (.int .u32 x)]], .exit 0, mkSt 19 [] [.ro 5 n (gFl F), .robox 32 [.val (.int .u32 x)]]⟩]⟩) (obl := [(0 : Nat) = (0 : Nat),
      (↑n : Int) = (↑n : Int),
      (0 : Int) = (↑(0 : Nat) : Int),
      n = n,
      ∀ (i : Nat), i < n → Fl.id F i = Fl.id F i ∧ Fl.co F i = Fl.co F i ∧ Fl.bu F i = Fl.bu F i ∧ Fl.si F i = Fl.si F i ∧ Fl.ca F i = Fl.ca F i ∧ True,
      x = x,
      (2 : Nat) ≤ (2 : Nat),
      CodeOk Try.prog (2 : Nat) (Code.loop (loopOf Try.f23 (0 : Nat))) (mkSt (19 : Nat) [((0 : Nat), SV.nv (NV.one (At.own (0 : Nat)))), ((1 : Nat), SV.nv (NV.one (At.clo (24 : FuncId) [A0.ptr (1 : Nat) (0 : Nat)]))), ((6 : Nat), SV.nv (NV.one (At.own (0 : Nat)))), ((7 : Nat), iA (↑n : Int)), ((8 : Nat), iA (↑(0 : Nat) : Int))] [Seg.ro (5 : Nat) n (gFl F), Seg.robox (32 : TypeId) [At.val (Value.int IntKind.u32 x)]]) (Ex.exit (0 : Nat)) (mkSt (19 : Nat) [] [Seg.ro (5 : Nat) n (gFl F), Seg.robox (32 : TypeId) [At.val (Value.int IntKind.u32 x)]]),
      (-1 : Int) = (-1 : Int),
      n = n,
      ∀ (i : Nat), i < n → Fl.id F i = Fl.id F i ∧ Fl.co F i = Fl.co F i ∧ Fl.bu F i = Fl.bu F i ∧ Fl.si F i = Fl.si F i ∧ Fl.ca F i = Fl.ca F i ∧ True,
      x = x]) (by kernel_rfl) (.cons (by rfl) (.cons (by rfl) (.cons (by rfl) (.cons (by rfl) (.cons (by (simp; done)) (.cons (by rfl) (.cons (by trivial) (.cons (by assumption) (.cons (by rfl) (.cons (by rfl) (.cons (by (simp; done)) (.cons (by rfl) .nil)))))))))))) (Nat.le_of_ble_eq_true (by kernel_rfl))

set_option maxHeartbeats 2000000 in
theorem ifx_yes (n i : Nat) (F : Fl) (x : Int) (l : CodeOk Try.prog 2 (.loop (loopOf Try.f23 0)) (mkSt 19 [(0, .nv (.one (.own 0))), (1, .nv (.one (.clo 24 [.ptr 1 0]))), (6, .nv (.one (.own 0))), (7, iA n), (8, iA (0 : Nat))] [.ro 5 n (gFl F), .robox 32 [.val (.int .u32 x)]]) .ret (mkSt 19 [(4, iA i)] [.ro 5 n (gFl F), .robox 32 [.val (.int .u32 x)]])) : FnOk Try.prog 23 ([.nv (.one (.own 0)), .nv (.one (.clo 24 [.ptr 1 0]))]) ([.ro 5 n (gFl F), .robox 32 [.val (.int .u32 x)]]) (iA i) ([.ro 5 n (gFl F), .robox 32 [.val (.int .u32 x)]]) :=
  fn_run Grn_ok Try.func23 (orc := ⟨[], [⟨mkSt 19 [(0, .nv (.one (.own 0))), (1, .nv (.one (.clo 24 [.ptr 1 0]))), (6, .nv (.one (.own 0))), (7, iA n), (8, iA (0 : Nat))] [.ro 5 n (gFl F), .robox 32 [.val (.int .u32 x)]], .ret, mkSt 19 [(4, iA i)] [.ro 5 n (gFl F), .robox 32 [.val (.int .u32 x)]]⟩]⟩) (obl := [(0 : Nat) = (0 : Nat),
      (↑n : Int) = (↑n : Int),
      (0 : Int) = (↑(0 : Nat) : Int),
      n = n,
      ∀ (i : Nat), i < n → Fl.id F i = Fl.id F i ∧ Fl.co F i = Fl.co F i ∧ Fl.bu F i = Fl.bu F i ∧ Fl.si F i = Fl.si F i ∧ Fl.ca F i = Fl.ca F i ∧ True,
      x = x,
      (2 : Nat) ≤ (2 : Nat),
      CodeOk Try.prog (2 : Nat) (Code.loop (loopOf Try.f23 (0 : Nat))) (mkSt (19 : Nat) [((0 : Nat), SV.nv (NV.one (At.own (0 : Nat)))), ((1 : Nat), SV.nv (NV.one (At.clo (24 : FuncId) [A0.ptr (1 : Nat) (0 : Nat)]))), ((6 : Nat), SV.nv (NV.one (At.own (0 : Nat)))), ((7 : Nat), iA (↑n : Int)), ((8 : Nat), iA (↑(0 : Nat) : Int))] [Seg.ro (5 : Nat) n (gFl F), Seg.robox (32 : TypeId) [At.val (Value.int IntKind.u32 x)]]) Ex.ret (mkSt (19 : Nat) [((4 : Nat), iA (↑i : Int))] [Seg.ro (5 : Nat) n (gFl F), Seg.robox (32 : TypeId) [At.val (Value.int IntKind.u32 x)]]),
      (↑i : Int) = (↑i : Int),
      n = n,
      ∀ (i : Nat), i < n → Fl.id F i = Fl.id F i ∧ Fl.co F i = Fl.co F i ∧ Fl.bu F i = Fl.bu F i ∧ Fl.si F i = Fl.si F i ∧ Fl.ca F i = Fl.ca F i ∧ True,
      x = x]) (by kernel_rfl) (.cons (by rfl) (.cons (by rfl) (.cons (by rfl) (.cons (by rfl) (.cons (by (simp; done)) (.cons (by rfl) (.cons (by trivial) (.cons (by assumption) (.cons (by rfl) (.cons (by rfl) (.cons (by (simp; done)) (.cons (by rfl) .nil)))))))))))) (Nat.le_of_ble_eq_true (by kernel_rfl))

set_option maxHeartbeats 2000000 in
theorem fo_n (n i : Nat) (F : Fl) (hi : i < n) (hn : n ≤ 64) (l : CodeOk Try.prog 1 (.loop (loopOf Try.f28 1)) (mkSt 35 [(0, .nv (.one (.own 0))), (3, iA i), (4, iA (0 : Nat))] [.ro 5 n (gFl F)]) (.exit 2) (mkSt 35 [(0, .nv (.one (.own 0))), (3, iA i)] [.ro 5 n (gFl F)])) : CodeOk Try.prog 1 (loopOf Try.f28 0) (mkSt 35 [(0, .nv (.one (.own 0))), (3, iA i)] [.ro 5 n (gFl F)]) .normal (mkSt 35 [(0, .nv (.one (.own 0))), (3, iA (i + 1 : Nat))] [.ro 5 n (gFl F)]) :=
  code_run Grn_ok (orc := ⟨[true], [⟨mkSt 35 [(0, .nv (.one (.own 0))), (3, iA i), (4, iA (0 : Nat))] [.ro 5 n (gFl F)], .exit 2, mkSt 35 [(0, .nv (.one (.own 0))), (3, iA i)] [.ro 5 n (gFl F)]⟩]⟩) (obl := [decide ((↑i : Int) < (↑n : Int)) = true,
      (↑i : Int) = (↑i : Int),
      (0 : Int) = (↑(0 : Nat) : Int),
      n = n,
      ∀ (i : Nat), i < n → Fl.id F i = Fl.id F i ∧ Fl.co F i = Fl.co F i ∧ Fl.bu F i = Fl.bu F i ∧ Fl.si F i = Fl.si F i ∧ Fl.ca F i = Fl.ca F i ∧ True,
      (1 : Nat) ≤ (1 : Nat),
      CodeOk Try.prog (1 : Nat) (Code.loop (loopOf Try.f28 (1 : Nat))) (mkSt (35 : Nat) [((0 : Nat), SV.nv (NV.one (At.own (0 : Nat)))), ((3 : Nat), iA (↑i : Int)), ((4 : Nat), iA (↑(0 : Nat) : Int))] [Seg.ro (5 : Nat) n (gFl F)]) (Ex.exit (2 : Nat)) (mkSt (35 : Nat) [((0 : Nat), SV.nv (NV.one (At.own (0 : Nat)))), ((3 : Nat), iA (↑i : Int))] [Seg.ro (5 : Nat) n (gFl F)]),
      IntKind.wrap IntKind.i64 ((↑i : Int) + (1 : Int)) = (↑(i + (1 : Nat)) : Int),
      n = n,
      ∀ (i : Nat), i < n → Fl.id F i = Fl.id F i ∧ Fl.co F i = Fl.co F i ∧ Fl.bu F i = Fl.bu F i ∧ Fl.si F i = Fl.si F i ∧ Fl.ca F i = Fl.ca F i ∧ True]) (by kernel_rfl) (.cons (by exact decide_eq_true (by omega)) (.cons (by rfl) (.cons (by rfl) (.cons (by rfl) (.cons (by (simp; done)) (.cons (by trivial) (.cons (by assumption) (.cons (by exact w64 (by omega) (by omega)) (.cons (by rfl) (.cons (by (simp; done)) .nil)))))))))) (Nat.le_of_ble_eq_true (by kernel_rfl))

set_option maxHeartbeats 2000000 in
theorem fo_f (n i : Nat) (F : Fl) (hi : i < n) (hn : n ≤ 64) (l : CodeOk Try.prog 1 (.loop (loopOf Try.f28 1)) (mkSt 35 [(0, .nv (.one (.own 0))), (3, iA i), (4, iA (0 : Nat))] [.ro 5 n (gFl F)]) .ret (mkSt 35 [(2, iA 30)] [.ro 5 n (gFl F)])) : CodeOk Try.prog 1 (loopOf Try.f28 0) (mkSt 35 [(0, .nv (.one (.own 0))), (3, iA i)] [.ro 5 n (gFl F)]) .ret (mkSt 35 [(2, iA 30)] [.ro 5 n (gFl F)]) :=
  code_run Grn_ok (orc := ⟨[true], [⟨mkSt 35 [(0, .nv (.one (.own 0))), (3, iA i), (4, iA (0 : Nat))] [.ro 5 n (gFl F)], .ret, mkSt 35 [(2, iA 30)] [.ro 5 n (gFl F)]⟩]⟩) (obl := [decide ((↑i : Int) < (↑n : Int)) = true,
      (↑i : Int) = (↑i : Int),
      (0 : Int) = (↑(0 : Nat) : Int),
      n = n,
      ∀ (i : Nat), i < n → Fl.id F i = Fl.id F i ∧ Fl.co F i = Fl.co F i ∧ Fl.bu F i = Fl.bu F i ∧ Fl.si F i = Fl.si F i ∧ Fl.ca F i = Fl.ca F i ∧ True,
      (1 : Nat) ≤ (1 : Nat),
      CodeOk Try.prog (1 : Nat) (Code.loop (loopOf Try.f28 (1 : Nat))) (mkSt (35 : Nat) [((0 : Nat), SV.nv (NV.one (At.own (0 : Nat)))), ((3 : Nat), iA (↑i : Int)), ((4 : Nat), iA (↑(0 : Nat) : Int))] [Seg.ro (5 : Nat) n (gFl F)]) Ex.ret (mkSt (35 : Nat) [((2 : Nat), iA (30 : Int))] [Seg.ro (5 : Nat) n (gFl F)]),
      (30 : Int) = (30 : Int),
      n = n,
      ∀ (i : Nat), i < n → Fl.id F i = Fl.id F i ∧ Fl.co F i = Fl.co F i ∧ Fl.bu F i = Fl.bu F i ∧ Fl.si F i = Fl.si F i ∧ Fl.ca F i = Fl.ca F i ∧ True]) (by kernel_rfl) (.cons (by exact decide_eq_true (by omega)) (.cons (by rfl) (.cons (by rfl) (.cons (by rfl) (.cons (by (simp; done)) (.cons (by trivial) (.cons (by assumption) (.cons (by rfl) (.cons (by rfl) (.cons (by (simp; done)) .nil)))))))))) (Nat.le_of_ble_eq_true (by kernel_rfl))

set_option maxHeartbeats 2000000 in
theorem fo_e (n : Nat) (F : Fl) (hn : n ≤ 64) : CodeOk Try.prog 1 (loopOf Try.f28 0) (mkSt 35 [(0, .nv (.one (.own 0))), (3, iA n)] [.ro 5 n (gFl F)]) (.exit 0) (mkSt 35 [] [.ro 5 n (gFl F)]) :=
  code_run Grn_ok (orc := ⟨[false], []⟩) (obl := [decide ((↑n : Int) < (↑n : Int)) = false,
      n = n,
      ∀ (i : Nat), i < n → Fl.id F i = Fl.id F i ∧ Fl.co F i = Fl.co F i ∧ Fl.bu F i = Fl.bu F i ∧ Fl.si F i = Fl.si F i ∧ Fl.ca F i = Fl.ca F i ∧ True]) (by kernel_rfl) (.cons (by exact decide_eq_false (by omega)) (.cons (by rfl) (.cons (by (simp; done)) .nil))) (Nat.le_of_ble_eq_true (by kernel_rfl))

set_option maxHeartbeats 2000000 in
theorem flows_none (F : Fl) : FnOk Try.prog 28 ([.nv (.one (.own 0))]) ([.ro 5 0 (gFl F)]) (iA 29) ([.ro 5 0 (gFl F)]) :=
  fn_run Grn_ok Try.func28 (orc := ⟨[true, true], []⟩) (obl := [decide ((↑(0 : Nat) : Int) < (1 : Int)) = true,
      true = true,
      (29 : Int) = (29 : Int),
      (0 : Nat) = (0 : Nat),
      ∀ (i : Nat), i < (0 : Nat) → Fl.id F i = Fl.id F i ∧ Fl.co F i = Fl.co F i ∧ Fl.bu F i = Fl.bu F i ∧ Fl.si F i = Fl.si F i ∧ Fl.ca F i = Fl.ca F i ∧ True]) (by kernel_rfl) (.cons (by rfl) (.cons (by rfl) (.cons (by rfl) (.cons (by rfl) (.cons (by omega) .nil))))) (Nat.le_of_ble_eq_true (by kernel_rfl))

set_option maxHeartbeats 2000000 in
theorem flows_many (n : Nat) (F : Fl) (h : 64 < n) : FnOk Try.prog 28 ([.nv (.one (.own 0))]) ([.ro 5 n (gFl F)]) (iA 29) ([.ro 5 n (gFl F)]) :=
  fn_run Grn_ok Try.func28 (orc := ⟨[false, true], []⟩) (obl := [decide ((↑n : Int) < (1 : Int)) = false,
      decide ((↑n : Int) > (64 : Int)) = true,
      (29 : Int) = (29 : Int),
      n = n,
      ∀ (i : Nat), i < n → Fl.id F i = Fl.id F i ∧ Fl.co F i = Fl.co F i ∧ Fl.bu F i = Fl.bu F i ∧ Fl.si F i = Fl.si F i ∧ Fl.ca F i = Fl.ca F i ∧ True]) (by kernel_rfl) (.cons (by exact decide_eq_false (by omega)) (.cons (by exact decide_eq_true (by omega)) (.cons (by rfl) (.cons (by rfl) (.cons (by (simp; done)) .nil))))) (Nat.le_of_ble_eq_true (by kernel_rfl))

set_option maxHeartbeats 2000000 in
theorem flows_ok (n : Nat) (F : Fl) (h : 1 ≤ n) (hn : n ≤ 64) (l : CodeOk Try.prog 1 (.loop (loopOf Try.f28 0)) (mkSt 35 [(0, .nv (.one (.own 0))), (3, iA (0 : Nat))] [.ro 5 n (gFl F)]) (.exit 0) (mkSt 35 [] [.ro 5 n (gFl F)])) : FnOk Try.prog 28 ([.nv (.one (.own 0))]) ([.ro 5 n (gFl F)]) (iA 0) ([.ro 5 n (gFl F)]) :=
  fn_run Grn_ok Try.func28 (orc := ⟨[false, false], [⟨mkSt 35 [(0, .nv (.one (.own 0))), (3, iA (0 : Nat))] [.ro 5 n (gFl F)], .exit 0, mkSt 35 [] [.ro 5 n (gFl F)]⟩]⟩) (obl := [decide ((↑n : Int) < (1 : Int)) = false,
      decide ((↑n : Int) > (64 : Int)) = false,
      (0 : Int) = (↑(0 : Nat) : Int),
      n = n,
      ∀ (i : Nat), i < n → Fl.id F i = Fl.id F i ∧ Fl.co F i = Fl.co F i ∧ Fl.bu F i = Fl.bu F i ∧ Fl.si F i = Fl.si F i ∧ Fl.ca F i = Fl.ca F i ∧ True,
      (1 : Nat) ≤ (1 : Nat),
      CodeOk Try.prog (1 : Nat) (Code.loop (loopOf Try.f28 (0 : Nat))) (mkSt (35 : Nat) [((0 : Nat), SV.nv (NV.one (At.own (0 : Nat)))), ((3 : Nat), iA (↑(0 : Nat) : Int))] [Seg.ro (5 : Nat) n (gFl F)]) (Ex.exit (0 : Nat)) (mkSt (35 : Nat) [] [Seg.ro (5 : Nat) n (gFl F)]),
      (0 : Int) = (0 : Int),
      n = n,
      ∀ (i : Nat), i < n → Fl.id F i = Fl.id F i ∧ Fl.co F i = Fl.co F i ∧ Fl.bu F i = Fl.bu F i ∧ Fl.si F i = Fl.si F i ∧ Fl.ca F i = Fl.ca F i ∧ True]) (by kernel_rfl) (.cons (by exact decide_eq_false (by omega)) (.cons (by exact decide_eq_false (by omega)) (.cons (by rfl) (.cons (by rfl) (.cons (by (simp; done)) (.cons (by trivial) (.cons (by assumption) (.cons (by rfl) (.cons (by rfl) (.cons (by (simp; done)) .nil)))))))))) (Nat.le_of_ble_eq_true (by kernel_rfl))

set_option maxHeartbeats 2000000 in
theorem flows_dup (n : Nat) (F : Fl) (h : 1 ≤ n) (hn : n ≤ 64) (l : CodeOk Try.prog 1 (.loop (loopOf Try.f28 0)) (mkSt 35 [(0, .nv (.one (.own 0))), (3, iA (0 : Nat))] [.ro 5 n (gFl F)]) .ret (mkSt 35 [(2, iA 30)] [.ro 5 n (gFl F)])) : FnOk Try.prog 28 ([.nv (.one (.own 0))]) ([.ro 5 n (gFl F)]) (iA 30) ([.ro 5 n (gFl F)]) :=
  fn_run Grn_ok Try.func28 (orc := ⟨[false, false], [⟨mkSt 35 [(0, .nv (.one (.own 0))), (3, iA (0 : Nat))] [.ro 5 n (gFl F)], .ret, mkSt 35 [(2, iA 30)] [.ro 5 n (gFl F)]⟩]⟩) (obl := [decide ((↑n : Int) < (1 : Int)) = false,
      decide ((↑n : Int) > (64 : Int)) = false,
      (0 : Int) = (↑(0 : Nat) : Int),
      n = n,
      ∀ (i : Nat), i < n → Fl.id F i = Fl.id F i ∧ Fl.co F i = Fl.co F i ∧ Fl.bu F i = Fl.bu F i ∧ Fl.si F i = Fl.si F i ∧ Fl.ca F i = Fl.ca F i ∧ True,
      (1 : Nat) ≤ (1 : Nat),
      CodeOk Try.prog (1 : Nat) (Code.loop (loopOf Try.f28 (0 : Nat))) (mkSt (35 : Nat) [((0 : Nat), SV.nv (NV.one (At.own (0 : Nat)))), ((3 : Nat), iA (↑(0 : Nat) : Int))] [Seg.ro (5 : Nat) n (gFl F)]) Ex.ret (mkSt (35 : Nat) [((2 : Nat), iA (30 : Int))] [Seg.ro (5 : Nat) n (gFl F)]),
      (30 : Int) = (30 : Int),
      n = n,
      ∀ (i : Nat), i < n → Fl.id F i = Fl.id F i ∧ Fl.co F i = Fl.co F i ∧ Fl.bu F i = Fl.bu F i ∧ Fl.si F i = Fl.si F i ∧ Fl.ca F i = Fl.ca F i ∧ True]) (by kernel_rfl) (.cons (by exact decide_eq_false (by omega)) (.cons (by exact decide_eq_false (by omega)) (.cons (by rfl) (.cons (by rfl) (.cons (by (simp; done)) (.cons (by trivial) (.cons (by assumption) (.cons (by rfl) (.cons (by rfl) (.cons (by (simp; done)) .nil)))))))))) (Nat.le_of_ble_eq_true (by kernel_rfl))

set_option maxHeartbeats 2000000 in
theorem clone_flow (n : Nat) (F : Fl) (h : 1 ≤ n) (hn : n ≤ 4096) : FnOk Try.prog 22 ([.nv (.one (.own 0))]) ([.ro 5 n (gFl F)]) (.nv (.one (.own 1))) ([.ro 5 n (gFl F), .row 56 5 n (gFl F)]) :=
  fn_run Grn_ok Try.func22 (orc := ⟨[false], []⟩) (obl := [(0 : Nat) < n,
      false = false,
      (0 : Nat) + n ≤ (4611686018427387904 : Nat),
      ((0 : Nat) + n) * (40 : Nat) ≤ (140737488355328 : Nat),
      n = n,
      ∀ (i : Nat), i < n → Fl.id F i = Fl.id F i ∧ Fl.co F i = Fl.co F i ∧ Fl.bu F i = Fl.bu F i ∧ Fl.si F i = Fl.si F i ∧ Fl.ca F i = Fl.ca F i ∧ True,
      (0 : Nat) + n = n,
      ∀ (i : Nat), i < (0 : Nat) + n → AllT (leAts ([(nat_lit 0, Bd.same (nat_lit 0))] ++ ([((1 : Nat), Bd.same (2 : Nat))] ++ []) ++ ([] ++ ([] ++ []) ++ ([] ++ []))) (2 : Nat) (if n = (1 : Nat) then if i = (0 : Nat) then gFl F (0 : Nat) else [] else if i < (0 : Nat) then [] else gFl F (i - (0 : Nat))) (gFl F i))]) (by kernel_rfl) (.cons (by assumption) (.cons (by rfl) (.cons (by omega) (.cons (by omega) (.cons (by rfl) (.cons (by (simp; done)) (.cons (by omega) (.cons (by (refine leG_eq (fun i hi => ?_) (fun _ _ => rfl); (repeat' split) <;> first | rfl | omega | (subst_vars; rfl) | (simp_all; done))) .nil)))))))) (Nat.le_of_ble_eq_true (by kernel_rfl))

set_option maxHeartbeats 2000000 in
theorem clone_u64 (n : Nat) (T : Nat → Int) (h : 1 ≤ n) (hn : n ≤ 4096) : FnOk Try.prog 32 ([.nv (.one (.own 0))]) ([.ro 1 n (gU64 T)]) (.nv (.one (.own 1))) ([.ro 1 n (gU64 T), .row 31 1 n (gU64 T)]) :=
  fn_run Grn_ok Try.func32 (orc := ⟨[false], []⟩) (obl := [(0 : Nat) < n,
      false = false,
      (0 : Nat) + n ≤ (4611686018427387904 : Nat),
      ((0 : Nat) + n) * (8 : Nat) ≤ (140737488355328 : Nat),
      n = n,
      ∀ (i : Nat), i < n → T i = T i ∧ True,
      (0 : Nat) + n = n,
      ∀ (i : Nat), i < (0 : Nat) + n → AllT (leAts ([(nat_lit 0, Bd.same (nat_lit 0))] ++ ([((1 : Nat), Bd.same (2 : Nat))] ++ []) ++ ([] ++ ([] ++ []) ++ ([] ++ []))) (2 : Nat) (if n = (1 : Nat) then if i = (0 : Nat) then gU64 T (0 : Nat) else [] else if i < (0 : Nat) then [] else gU64 T (i - (0 : Nat))) (gU64 T i))]) (by kernel_rfl) (.cons (by assumption) (.cons (by rfl) (.cons (by omega) (.cons (by omega) (.cons (by rfl) (.cons (by (intro _ _; exact ⟨rfl, trivial⟩)) (.cons (by omega) (.cons (by (refine leG_eq (fun i hi => ?_) (fun _ _ => rfl); (repeat' split) <;> first | rfl | omega | (subst_vars; rfl) | (simp_all; done))) .nil)))))))) (Nat.le_of_ble_eq_true (by kernel_rfl))
end Go.Proofs.Ytkgkelfdmkginaa
