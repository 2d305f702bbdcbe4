/- Runs of Go code, as printed by a program: no condition beyond those that each states. -/
import Derived.Test.YtkgkelfdmkginaaRnM
import Derived.Test.YtkgkelfdmkginaaChecked
import Derived.KernelRfl
namespace Go.Proofs.Ytkgkelfdmkginaa
set_option linter.unusedVariables false
set_option linter.unusedSimpArgs false
set_option maxRecDepth 100000
open Go.RowKit E
set_option maxHeartbeats 2000000 in
theorem index_e (n : Nat) (T : Nat → Int) (x : Int) : CodeOk Try.prog 1 (loopOf Try.f40 0) (mkSt 19 [(0, .nv (.one (.own 0))), (1, .nv (.one (.val (.int .u32 x)))), (6, .nv (.one (.own 0))), (7, iA n), (8, iA n)] [.ro 1 n (gU32 T)]) (.exit 0) (mkSt 19 [] [.ro 1 n (gU32 T)]) :=
  code_run Grk_ok (orc := ⟨[false], []⟩) (obl := [decide ((↑n : Int) < (↑n : Int)) = false,
      n = n,
      ∀ (i : Nat), i < n → T i = T i ∧ True]) (by kernel_rfl) (.cons (by exact decide_eq_false (by omega)) (.cons (by rfl) (.cons (by (simp; done)) .nil))) (Nat.le_of_ble_eq_true (by kernel_rfl))

set_option maxHeartbeats 2000000 in
theorem index_f (n k : Nat) (T : Nat → Int) (x : Int) (hk : k < n) (hx : T k = x) (hn : n ≤ 4611686018427387904) : CodeOk Try.prog 1 (loopOf Try.f40 0) (mkSt 19 [(0, .nv (.one (.own 0))), (1, .nv (.one (.val (.int .u32 x)))), (6, .nv (.one (.own 0))), (7, iA n), (8, iA k)] [.ro 1 n (gU32 T)]) .ret (mkSt 19 [(4, iA k)] [.ro 1 n (gU32 T)]) :=
  code_run Grk_ok (orc := ⟨[true, true], []⟩) (obl := [decide ((↑k : Int) < (↑n : Int)) = true,
      (0 : Int) ≤ (↑k : Int),
      (↑k : Int) < (↑n : Int),
      Int.toNat (↑k : Int) < n,
      (x == T (Int.toNat (↑k : Int))) = true,
      (↑k : Int) = (↑k : Int),
      n = n,
      ∀ (i : Nat), i < n → T i = T i ∧ True]) (by kernel_rfl) (.cons (by exact decide_eq_true (by omega)) (.cons (by omega) (.cons (by omega) (.cons (by assumption) (.cons (by (simp [*]; done)) (.cons (by rfl) (.cons (by rfl) (.cons (by (simp; done)) .nil)))))))) (Nat.le_of_ble_eq_true (by kernel_rfl))

set_option maxHeartbeats 2000000 in
theorem index_n (n k : Nat) (T : Nat → Int) (x : Int) (hk : k < n) (hx : T k ≠ x) (hn : n ≤ 4611686018427387904) : CodeOk Try.prog 1 (loopOf Try.f40 0) (mkSt 19 [(0, .nv (.one (.own 0))), (1, .nv (.one (.val (.int .u32 x)))), (6, .nv (.one (.own 0))), (7, iA n), (8, iA k)] [.ro 1 n (gU32 T)]) .normal (mkSt 19 [(0, .nv (.one (.own 0))), (1, .nv (.one (.val (.int .u32 x)))), (6, .nv (.one (.own 0))), (7, iA n), (8, iA (k + 1 : Nat))] [.ro 1 n (gU32 T)]) :=
  code_run Grk_ok (orc := ⟨[true, false], []⟩) (obl := [decide ((↑k : Int) < (↑n : Int)) = true,
      (0 : Int) ≤ (↑k : Int),
      (↑k : Int) < (↑n : Int),
      Int.toNat (↑k : Int) < n,
      (x == T (Int.toNat (↑k : Int))) = false,
      x = x,
      (↑n : Int) = (↑n : Int),
      IntKind.wrap IntKind.i64 ((↑k : Int) + (1 : Int)) = (↑(k + (1 : Nat)) : Int),
      n = n,
      ∀ (i : Nat), i < n → T i = T i ∧ True]) (by kernel_rfl) (.cons (by (simp; omega)) (.cons (by omega) (.cons (by (simp; omega)) (.cons (by assumption) (.cons (by (simp; omega)) (.cons (by rfl) (.cons (by rfl) (.cons (by exact w64 (by omega) (by omega)) (.cons (by rfl) (.cons (by (simp; done)) .nil)))))))))) (Nat.le_of_ble_eq_true (by kernel_rfl))

set_option maxHeartbeats 2000000 in
theorem index_no (n : Nat) (T : Nat → Int) (x : Int) (l : CodeOk Try.prog 1 (.loop (loopOf Try.f40 0)) (mkSt 19 [(0, .nv (.one (.own 0))), (1, .nv (.one (.val (.int .u32 x)))), (6, .nv (.one (.own 0))), (7, iA n), (8, iA (0 : Nat))] [.ro 1 n (gU32 T)]) (.exit 0) (mkSt 19 [] [.ro 1 n (gU32 T)])) : FnOk Try.prog 40 ([.nv (.one (.own 0)), .nv (.one (.val (.int .u32 x)))]) ([.ro 1 n (gU32 T)]) (iA (-1)) ([.ro 1 n (gU32 T)]) :=
  fn_run Grk_ok Try.func40 (orc := ⟨[], [⟨mkSt 19 [(0, .nv (.one (.own 0))), (1, .nv (.one (.val (.int .u32 x)))), (6, .nv (.one (.own 0))), (7, iA n), (8, iA (0 : Nat))] [.ro 1 n (gU32 T)], .exit 0, mkSt 19 [] [.ro 1 n (gU32 T)]⟩]⟩) (obl := [x = x,
      (↑n : Int) = (↑n : Int),
      (0 : Int) = (↑(0 : Nat) : Int),
      n = n,
      ∀ (i : Nat), i < n → T i = T i ∧ True,
      (1 : Nat) ≤ (1 : Nat),
      CodeOk Try.prog (1 : Nat) (Code.loop (loopOf Try.f40 (0 : Nat))) (mkSt (19 : Nat) [((0 : Nat), SV.nv (NV.one (At.own (0 : Nat)))), ((1 : Nat), SV.nv (NV.one (At.val (Value.int IntKind.u32 x)))), ((6 : Nat), SV.nv (NV.one (At.own (0 : Nat)))), ((7 : Nat), iA (↑n : Int)), ((8 : Nat), iA (↑(0 : Nat) : Int))] [Seg.ro (1 : Nat) n (gU32 T)]) (Ex.exit (0 : Nat)) (mkSt (19 : Nat) [] [Seg.ro (1 : Nat) n (gU32 T)]),
      (-1 : Int) = (-1 : Int),
      n = n,
      ∀ (i : Nat), i < n → T i = T i ∧ True]) (by kernel_rfl) (.cons (by rfl) (.cons (by rfl) (.cons (by rfl) (.cons (by rfl) (.cons (by (simp; done)) (.cons (by trivial) (.cons (by assumption) (.cons (by rfl) (.cons (by rfl) (.cons (by (simp; done)) .nil)))))))))) (Nat.le_of_ble_eq_true (by kernel_rfl))

set_option maxHeartbeats 2000000 in
theorem index_yes (n i : Nat) (T : Nat → Int) (x : Int) (l : CodeOk Try.prog 1 (.loop (loopOf Try.f40 0)) (mkSt 19 [(0, .nv (.one (.own 0))), (1, .nv (.one (.val (.int .u32 x)))), (6, .nv (.one (.own 0))), (7, iA n), (8, iA (0 : Nat))] [.ro 1 n (gU32 T)]) .ret (mkSt 19 [(4, iA i)] [.ro 1 n (gU32 T)])) : FnOk Try.prog 40 ([.nv (.one (.own 0)), .nv (.one (.val (.int .u32 x)))]) ([.ro 1 n (gU32 T)]) (iA i) ([.ro 1 n (gU32 T)]) :=
  fn_run Grk_ok Try.func40 (orc := ⟨[], [⟨mkSt 19 [(0, .nv (.one (.own 0))), (1, .nv (.one (.val (.int .u32 x)))), (6, .nv (.one (.own 0))), (7, iA n), (8, iA (0 : Nat))] [.ro 1 n (gU32 T)], .ret, mkSt 19 [(4, iA i)] [.ro 1 n (gU32 T)]⟩]⟩) (obl := [x = x,
      (↑n : Int) = (↑n : Int),
      (0 : Int) = (↑(0 : Nat) : Int),
      n = n,
      ∀ (i : Nat), i < n → T i = T i ∧ True,
      (1 : Nat) ≤ (1 : Nat),
      CodeOk Try.prog (1 : Nat) (Code.loop (loopOf Try.f40 (0 : Nat))) (mkSt (19 : Nat) [((0 : Nat), SV.nv (NV.one (At.own (0 : Nat)))), ((1 : Nat), SV.nv (NV.one (At.val (Value.int IntKind.u32 x)))), ((6 : Nat), SV.nv (NV.one (At.own (0 : Nat)))), ((7 : Nat), iA (↑n : Int)), ((8 : Nat), iA (↑(0 : Nat) : Int))] [Seg.ro (1 : Nat) n (gU32 T)]) Ex.ret (mkSt (19 : Nat) [((4 : Nat), iA (↑i : Int))] [Seg.ro (1 : Nat) n (gU32 T)]),
      (↑i : Int) = (↑i : Int),
      n = n,
      ∀ (i : Nat), i < n → T i = T i ∧ True]) (by kernel_rfl) (.cons (by rfl) (.cons (by rfl) (.cons (by rfl) (.cons (by rfl) (.cons (by (simp; done)) (.cons (by trivial) (.cons (by assumption) (.cons (by rfl) (.cons (by rfl) (.cons (by (simp; done)) .nil)))))))))) (Nat.le_of_ble_eq_true (by kernel_rfl))

set_option maxHeartbeats 2000000 in
theorem nx1 (i c b s p id : Int) : FnOk Try.prog 24 ([.nv (.agg (flA i c b s p)), .nv (.one (.ptr 0 0))]) ([.robox 32 [.val (.int .u32 id)]]) (bA (i == id)) ([.robox 32 [.val (.int .u32 id)]]) :=
  fn_run Grk_ok Try.func24 (orc := ⟨[], []⟩) (obl := [(i == id) = (i == id),
      id = id]) (by kernel_rfl) (.cons (by rfl) (.cons (by rfl) .nil)) (Nat.le_of_ble_eq_true (by kernel_rfl))

set_option maxHeartbeats 2000000 in
theorem find_e (n : Nat) (F : Fl) (x : Int) : CodeOk Try.prog 1 (loopOf Try.f11 0) (mkSt 20 [(0, .nv (.one (.own 0))), (1, .nv (.one (.val (.int .u32 x)))), (5, iA n)] [.ro 5 n (gFl F)]) (.exit 0) (mkSt 20 [] [.ro 5 n (gFl F)]) :=
  code_run Grk_ok (orc := ⟨[false], []⟩) (obl := [decide ((↑n : Int) < (↑n : Int)) = false,
      n = n,
      ∀ (i : Nat), i < n → Fl.id F i = Fl.id F i ∧ Fl.co F i = Fl.co F i ∧ Fl.bu F i = Fl.bu F i ∧ Fl.si F i = Fl.si F i ∧ Fl.ca F i = Fl.ca F i ∧ True]) (by kernel_rfl) (.cons (by exact decide_eq_false (by omega)) (.cons (by rfl) (.cons (by (simp; done)) .nil))) (Nat.le_of_ble_eq_true (by kernel_rfl))

set_option maxHeartbeats 2000000 in
theorem find_f (n k : Nat) (F : Fl) (x : Int) (hk : k < n) (hx : F.id k = x) (hn : n ≤ 4611686018427387904) : CodeOk Try.prog 1 (loopOf Try.f11 0) (mkSt 20 [(0, .nv (.one (.own 0))), (1, .nv (.one (.val (.int .u32 x)))), (5, iA k)] [.ro 5 n (gFl F)]) .ret (mkSt 20 [(4, iA k)] [.ro 5 n (gFl F)]) :=
  code_run Grk_ok (orc := ⟨[true, true], []⟩) (obl := [decide ((↑k : Int) < (↑n : Int)) = true,
      (0 : Int) ≤ (↑k : Int),
      (↑k : Int) < (↑n : Int),
      Int.toNat (↑k : Int) < n,
      (Fl.id F (Int.toNat (↑k : Int)) == x) = true,
      (↑k : Int) = (↑k : Int),
      n = n,
      ∀ (i : Nat), i < n → Fl.id F i = Fl.id F i ∧ Fl.co F i = Fl.co F i ∧ Fl.bu F i = Fl.bu F i ∧ Fl.si F i = Fl.si F i ∧ Fl.ca F i = Fl.ca F i ∧ True]) (by kernel_rfl) (.cons (by exact decide_eq_true (by omega)) (.cons (by omega) (.cons (by omega) (.cons (by assumption) (.cons (by (simp [*]; done)) (.cons (by rfl) (.cons (by rfl) (.cons (by (simp; done)) .nil)))))))) (Nat.le_of_ble_eq_true (by kernel_rfl))

set_option maxHeartbeats 2000000 in
theorem find_n (n k : Nat) (F : Fl) (x : Int) (hk : k < n) (hx : F.id k ≠ x) (hn : n ≤ 4611686018427387904) : CodeOk Try.prog 1 (loopOf Try.f11 0) (mkSt 20 [(0, .nv (.one (.own 0))), (1, .nv (.one (.val (.int .u32 x)))), (5, iA k)] [.ro 5 n (gFl F)]) .normal (mkSt 20 [(0, .nv (.one (.own 0))), (1, .nv (.one (.val (.int .u32 x)))), (5, iA (k + 1 : Nat))] [.ro 5 n (gFl F)]) :=
  code_run Grk_ok (orc := ⟨[true, false], []⟩) (obl := [decide ((↑k : Int) < (↑n : Int)) = true,
      (0 : Int) ≤ (↑k : Int),
      (↑k : Int) < (↑n : Int),
      Int.toNat (↑k : Int) < n,
      (Fl.id F (Int.toNat (↑k : Int)) == x) = false,
      x = x,
      IntKind.wrap IntKind.i64 ((↑k : Int) + (1 : Int)) = (↑(k + (1 : Nat)) : Int),
      n = n,
      ∀ (i : Nat), i < n → Fl.id F i = Fl.id F i ∧ Fl.co F i = Fl.co F i ∧ Fl.bu F i = Fl.bu F i ∧ Fl.si F i = Fl.si F i ∧ Fl.ca F i = Fl.ca F i ∧ True]) (by kernel_rfl) (.cons (by exact decide_eq_true (by omega)) (.cons (by omega) (.cons (by omega) (.cons (by assumption) (.cons (by (simp [*]; done)) (.cons (by rfl) (.cons (by exact w64 (by omega) (by omega)) (.cons (by rfl) (.cons (by (simp; done)) .nil))))))))) (Nat.le_of_ble_eq_true (by kernel_rfl))

set_option maxHeartbeats 2000000 in
theorem find_no (n : Nat) (F : Fl) (x : Int) (l : CodeOk Try.prog 1 (.loop (loopOf Try.f11 0)) (mkSt 20 [(0, .nv (.one (.own 0))), (1, .nv (.one (.val (.int .u32 x)))), (5, iA (0 : Nat))] [.ro 5 n (gFl F)]) (.exit 0) (mkSt 20 [] [.ro 5 n (gFl F)])) : FnOk Try.prog 11 ([.nv (.one (.own 0)), .nv (.one (.val (.int .u32 x)))]) ([.ro 5 n (gFl F)]) (iA (-1)) ([.ro 5 n (gFl F)]) :=
  fn_run Grk_ok Try.func11 (orc := ⟨[], [⟨mkSt 20 [(0, .nv (.one (.own 0))), (1, .nv (.one (.val (.int .u32 x)))), (5, iA (0 : Nat))] [.ro 5 n (gFl F)], .exit 0, mkSt 20 [] [.ro 5 n (gFl F)]⟩]⟩) (obl := [x = x,
      (0 : Int) = (↑(0 : Nat) : Int),
      n = n,
      ∀ (i : Nat), i < n → Fl.id F i = Fl.id F i ∧ Fl.co F i = Fl.co F i ∧ Fl.bu F i = Fl.bu F i ∧ Fl.si F i = Fl.si F i ∧ Fl.ca F i = Fl.ca F i ∧ True,
      (1 : Nat) ≤ (1 : Nat),
      CodeOk Try.prog (1 : Nat) (Code.loop (loopOf Try.f11 (0 : Nat))) (mkSt (20 : Nat) [((0 : Nat), SV.nv (NV.one (At.own (0 : Nat)))), ((1 : Nat), SV.nv (NV.one (At.val (Value.int IntKind.u32 x)))), ((5 : Nat), iA (↑(0 : Nat) : Int))] [Seg.ro (5 : Nat) n (gFl F)]) (Ex.exit (0 : Nat)) (mkSt (20 : Nat) [] [Seg.ro (5 : Nat) n (gFl F)]),
      (-1 : Int) = (-1 : Int),
      n = n,
      ∀ (i : Nat), i < n → Fl.id F i = Fl.id F i ∧ Fl.co F i = Fl.co F i ∧ Fl.bu F i = Fl.bu F i ∧ Fl.si F i = Fl.si F i ∧ Fl.ca F i = Fl.ca F i ∧ True]) (by kernel_rfl) (.cons (by rfl) (.cons (by rfl) (.cons (by rfl) (.cons (by (simp; done)) (.cons (by trivial) (.cons (by assumption) (.cons (by rfl) (.cons (by rfl) (.cons (by (simp; done)) .nil))))))))) (Nat.le_of_ble_eq_true (by kernel_rfl))

set_option maxHeartbeats 2000000 in
theorem find_yes (n i : Nat) (F : Fl) (x : Int) (l : CodeOk Try.prog 1 (.loop (loopOf Try.f11 0)) (mkSt 20 [(0, .nv (.one (.own 0))), (1, .nv (.one (.val (.int .u32 x)))), (5, iA (0 : Nat))] [.ro 5 n (gFl F)]) .ret (mkSt 20 [(4, iA i)] [.ro 5 n (gFl F)])) : FnOk Try.prog 11 ([.nv (.one (.own 0)), .nv (.one (.val (.int .u32 x)))]) ([.ro 5 n (gFl F)]) (iA i) ([.ro 5 n (gFl F)]) :=
  fn_run Grk_ok Try.func11 (orc := ⟨[], [⟨mkSt 20 [(0, .nv (.one (.own 0))), (1, .nv (.one (.val (.int .u32 x)))), (5, iA (0 : Nat))] [.ro 5 n (gFl F)], .ret, mkSt 20 [(4, iA i)] [.ro 5 n (gFl F)]⟩]⟩) (obl := [x = x,
      (0 : Int) = (↑(0 : Nat) : Int),
      n = n,
      ∀ (i : Nat), i < n → Fl.id F i = Fl.id F i ∧ Fl.co F i = Fl.co F i ∧ Fl.bu F i = Fl.bu F i ∧ Fl.si F i = Fl.si F i ∧ Fl.ca F i = Fl.ca F i ∧ True,
      (1 : Nat) ≤ (1 : Nat),
      CodeOk Try.prog (1 : Nat) (Code.loop (loopOf Try.f11 (0 : Nat))) (mkSt (20 : Nat) [((0 : Nat), SV.nv (NV.one (At.own (0 : Nat)))), ((1 : Nat), SV.nv (NV.one (At.val (Value.int IntKind.u32 x)))), ((5 : Nat), iA (↑(0 : Nat) : Int))] [Seg.ro (5 : Nat) n (gFl F)]) Ex.ret (mkSt (20 : Nat) [((4 : Nat), iA (↑i : Int))] [Seg.ro (5 : Nat) n (gFl F)]),
      (↑i : Int) = (↑i : Int),
      n = n,
      ∀ (i : Nat), i < n → Fl.id F i = Fl.id F i ∧ Fl.co F i = Fl.co F i ∧ Fl.bu F i = Fl.bu F i ∧ Fl.si F i = Fl.si F i ∧ Fl.ca F i = Fl.ca F i ∧ True]) (by kernel_rfl) (.cons (by rfl) (.cons (by rfl) (.cons (by rfl) (.cons (by (simp; done)) (.cons (by trivial) (.cons (by assumption) (.cons (by rfl) (.cons (by rfl) (.cons (by (simp; done)) .nil))))))))) (Nat.le_of_ble_eq_true (by kernel_rfl))

set_option maxHeartbeats 2000000 in
theorem same_e (n : Nat) (T U : Nat → Int) : CodeOk Try.prog 2 (loopOf Try.f19 0) (mkSt 26 [(0, .nv (.one (.own 0))), (1, .nv (.one (.own 1))), (5, iA n)] [.ro 1 n (gU64 T), .ro 1 n (gU64 U)]) (.exit 0) (mkSt 26 [] [.ro 1 n (gU64 T), .ro 1 n (gU64 U)]) :=
  code_run Grk_ok (orc := ⟨[false], []⟩) (obl := [decide ((↑n : Int) < (↑n : Int)) = false,
      n = n,
      ∀ (i : Nat), i < n → T i = T i ∧ True,
      n = n,
      ∀ (i : Nat), i < n → U i = U i ∧ True]) (by kernel_rfl) (.cons (by exact decide_eq_false (by omega)) (.cons (by rfl) (.cons (by (simp; done)) (.cons (by rfl) (.cons (by (simp; done)) .nil))))) (Nat.le_of_ble_eq_true (by kernel_rfl))

set_option maxHeartbeats 2000000 in
theorem same_n (n k : Nat) (T U : Nat → Int) (hk : k < n) (hx : T k = U k) (hn : n ≤ 4611686018427387904) : CodeOk Try.prog 2 (loopOf Try.f19 0) (mkSt 26 [(0, .nv (.one (.own 0))), (1, .nv (.one (.own 1))), (5, iA k)] [.ro 1 n (gU64 T), .ro 1 n (gU64 U)]) .normal (mkSt 26 [(0, .nv (.one (.own 0))), (1, .nv (.one (.own 1))), (5, iA (k + 1 : Nat))] [.ro 1 n (gU64 T), .ro 1 n (gU64 U)]) :=
  code_run Grk_ok (orc := ⟨[true, false], []⟩) (obl := [decide ((↑k : Int) < (↑n : Int)) = true,
      (0 : Int) ≤ (↑k : Int),
      (↑k : Int) < (↑n : Int),
      Int.toNat (↑k : Int) < n,
      (0 : Int) ≤ (↑k : Int),
      (↑k : Int) < (↑n : Int),
      Int.toNat (↑k : Int) < n,
      (T (Int.toNat (↑k : Int)) != U (Int.toNat (↑k : Int))) = false,
      IntKind.wrap IntKind.i64 ((↑k : Int) + (1 : Int)) = (↑(k + (1 : Nat)) : Int),
      n = n,
      ∀ (i : Nat), i < n → T i = T i ∧ True,
      n = n,
      ∀ (i : Nat), i < n → U i = U i ∧ True]) (by kernel_rfl) (.cons (by exact decide_eq_true (by omega)) (.cons (by omega) (.cons (by omega) (.cons (by assumption) (.cons (by omega) (.cons (by omega) (.cons (by assumption) (.cons (by (simp [*]; done)) (.cons (by exact w64 (by omega) (by omega)) (.cons (by rfl) (.cons (by (simp; done)) (.cons (by rfl) (.cons (by (simp; done)) .nil))))))))))))) (Nat.le_of_ble_eq_true (by kernel_rfl))

set_option maxHeartbeats 2000000 in
theorem same_yes (n : Nat) (T U : Nat → Int) (l : CodeOk Try.prog 2 (.loop (loopOf Try.f19 0)) (mkSt 26 [(0, .nv (.one (.own 0))), (1, .nv (.one (.own 1))), (5, iA (0 : Nat))] [.ro 1 n (gU64 T), .ro 1 n (gU64 U)]) (.exit 0) (mkSt 26 [] [.ro 1 n (gU64 T), .ro 1 n (gU64 U)])) : FnOk Try.prog 19 ([.nv (.one (.own 0)), .nv (.one (.own 1))]) ([.ro 1 n (gU64 T), .ro 1 n (gU64 U)]) (bA true) ([.ro 1 n (gU64 T), .ro 1 n (gU64 U)]) :=
  fn_run Grk_ok Try.func19 (orc := ⟨[false], [⟨mkSt 26 [(0, .nv (.one (.own 0))), (1, .nv (.one (.own 1))), (5, iA (0 : Nat))] [.ro 1 n (gU64 T), .ro 1 n (gU64 U)], .exit 0, mkSt 26 [] [.ro 1 n (gU64 T), .ro 1 n (gU64 U)]⟩]⟩) (obl := [((↑n : Int) != (↑n : Int)) = false,
      (0 : Int) = (↑(0 : Nat) : Int),
      n = n,
      ∀ (i : Nat), i < n → T i = T i ∧ True,
      n = n,
      ∀ (i : Nat), i < n → U i = U i ∧ True,
      (2 : Nat) ≤ (2 : Nat),
      CodeOk Try.prog (2 : Nat) (Code.loop (loopOf Try.f19 (0 : Nat))) (mkSt (26 : Nat) [((0 : Nat), SV.nv (NV.one (At.own (0 : Nat)))), ((1 : Nat), SV.nv (NV.one (At.own (1 : Nat)))), ((5 : Nat), iA (↑(0 : Nat) : Int))] [Seg.ro (1 : Nat) n (gU64 T), Seg.ro (1 : Nat) n (gU64 U)]) (Ex.exit (0 : Nat)) (mkSt (26 : Nat) [] [Seg.ro (1 : Nat) n (gU64 T), Seg.ro (1 : Nat) n (gU64 U)]),
      true = true,
      n = n,
      ∀ (i : Nat), i < n → T i = T i ∧ True,
      n = n,
      ∀ (i : Nat), i < n → U i = U i ∧ True]) (by kernel_rfl) (.cons (by exact bne_eq_false_iff_eq.2 (by omega)) (.cons (by rfl) (.cons (by rfl) (.cons (by (simp; done)) (.cons (by rfl) (.cons (by (simp; done)) (.cons (by trivial) (.cons (by assumption) (.cons (by rfl) (.cons (by rfl) (.cons (by (simp; done)) (.cons (by rfl) (.cons (by (simp; done)) .nil))))))))))))) (Nat.le_of_ble_eq_true (by kernel_rfl))

set_option maxHeartbeats 2000000 in
theorem fin_e (n i : Nat) (F : Fl) (hi : i < n) (hn : n ≤ 64) : CodeOk Try.prog 1 (loopOf Try.f28 1) (mkSt 35 [(0, .nv (.one (.own 0))), (3, iA i), (4, iA i)] [.ro 5 n (gFl F)]) (.exit 2) (mkSt 35 [(0, .nv (.one (.own 0))), (3, iA i)] [.ro 5 n (gFl F)]) :=
  code_run Grk_ok (orc := ⟨[false], []⟩) (obl := [decide ((↑i : Int) < (↑i : Int)) = false,
      (↑i : Int) = (↑i : Int),
      n = n,
      ∀ (i : Nat), i < n → Fl.id F i = Fl.id F i ∧ Fl.co F i = Fl.co F i ∧ Fl.bu F i = Fl.bu F i ∧ Fl.si F i = Fl.si F i ∧ Fl.ca F i = Fl.ca F i ∧ True]) (by kernel_rfl) (.cons (by exact decide_eq_false (by omega)) (.cons (by rfl) (.cons (by rfl) (.cons (by (simp; done)) .nil)))) (Nat.le_of_ble_eq_true (by kernel_rfl))

set_option maxHeartbeats 2000000 in
theorem fin_f (n i k : Nat) (F : Fl) (hi : i < n) (hk : k < i) (hn : n ≤ 64) (hx : F.id k = F.id i) : CodeOk Try.prog 1 (loopOf Try.f28 1) (mkSt 35 [(0, .nv (.one (.own 0))), (3, iA i), (4, iA k)] [.ro 5 n (gFl F)]) .ret (mkSt 35 [(2, iA 30)] [.ro 5 n (gFl F)]) :=
  code_run Grk_ok (orc := ⟨[true, true], []⟩) (obl := [decide ((↑k : Int) < (↑i : Int)) = true,
      (0 : Int) ≤ (↑i : Int),
      (↑i : Int) < (↑n : Int),
      Int.toNat (↑i : Int) < n,
      (0 : Int) ≤ (↑k : Int),
      (↑k : Int) < (↑n : Int),
      Int.toNat (↑k : Int) < n,
      (Fl.id F (Int.toNat (↑i : Int)) == Fl.id F (Int.toNat (↑k : Int))) = true,
      (30 : Int) = (30 : Int),
      n = n,
      ∀ (i : Nat), i < n → Fl.id F i = Fl.id F i ∧ Fl.co F i = Fl.co F i ∧ Fl.bu F i = Fl.bu F i ∧ Fl.si F i = Fl.si F i ∧ Fl.ca F i = Fl.ca F i ∧ True]) (by kernel_rfl) (.cons (by exact decide_eq_true (by omega)) (.cons (by omega) (.cons (by omega) (.cons (by assumption) (.cons (by omega) (.cons (by omega) (.cons (by omega) (.cons (by (simp [*]; done)) (.cons (by rfl) (.cons (by rfl) (.cons (by (simp; done)) .nil))))))))))) (Nat.le_of_ble_eq_true (by kernel_rfl))

set_option maxHeartbeats 2000000 in
theorem fin_n (n i k : Nat) (F : Fl) (hi : i < n) (hk : k < i) (hn : n ≤ 64) (hx : F.id k ≠ F.id i) : CodeOk Try.prog 1 (loopOf Try.f28 1) (mkSt 35 [(0, .nv (.one (.own 0))), (3, iA i), (4, iA k)] [.ro 5 n (gFl F)]) .normal (mkSt 35 [(0, .nv (.one (.own 0))), (3, iA i), (4, iA (k + 1 : Nat))] [.ro 5 n (gFl F)]) :=
  code_run Grk_ok (orc := ⟨[true, false], []⟩) (obl := [decide ((↑k : Int) < (↑i : Int)) = true,
      (0 : Int) ≤ (↑i : Int),
      (↑i : Int) < (↑n : Int),
      Int.toNat (↑i : Int) < n,
      (0 : Int) ≤ (↑k : Int),
      (↑k : Int) < (↑n : Int),
      Int.toNat (↑k : Int) < n,
      (Fl.id F (Int.toNat (↑i : Int)) == Fl.id F (Int.toNat (↑k : Int))) = false,
      (↑i : Int) = (↑i : Int),
      IntKind.wrap IntKind.i64 ((↑k : Int) + (1 : Int)) = (↑(k + (1 : Nat)) : Int),
      n = n,
      ∀ (i : Nat), i < n → Fl.id F i = Fl.id F i ∧ Fl.co F i = Fl.co F i ∧ Fl.bu F i = Fl.bu F i ∧ Fl.si F i = Fl.si F i ∧ Fl.ca F i = Fl.ca F i ∧ True]) (by kernel_rfl) (.cons (by exact decide_eq_true (by omega)) (.cons (by omega) (.cons (by omega) (.cons (by assumption) (.cons (by omega) (.cons (by omega) (.cons (by omega) (.cons (by (simp; omega)) (.cons (by rfl) (.cons (by exact w64 (by omega) (by omega)) (.cons (by rfl) (.cons (by (simp; done)) .nil)))))))))))) (Nat.le_of_ble_eq_true (by kernel_rfl))
end Go.Proofs.Ytkgkelfdmkginaa
