/- Runs of Go code, as printed by a program: no condition beyond those that each states. -/
import Derived.Test.YtajdkbgbekdbmaaMlX
import Derived.Test.YtajdkbgbekdbmaaChecked
import Derived.KernelRfl
namespace Go.Proofs.Ytajdkbgbekdbmaa
set_option linter.unusedVariables false
set_option linter.unusedSimpArgs false
set_option maxRecDepth 100000
open Go.RowKit E
attribute [local irreducible] FA
set_option maxHeartbeats 2000000 in
theorem smr (N i : Nat) (F G : Nat → Int) (hN : N ≤ 1000000) (hi : i < N) (he : F i = G i) : CodeOk Try.prog 2 (loopOf Try.f11 0) (mkSt 26 [(0, .nv (.one (.own 0))), (1, .nv (.one (.own 1))), (5, iA i)] [.ro 1 N (fun i => [.val (.int .i64 (F i))]), .ro 1 N (fun i => [.val (.int .i64 (G i))])]) .normal (mkSt 26 [(0, .nv (.one (.own 0))), (1, .nv (.one (.own 1))), (5, iA (i + 1 : Nat))] [.ro 1 N (fun i => [.val (.int .i64 (F i))]), .ro 1 N (fun i => [.val (.int .i64 (G i))])]) :=
  code_run G0_ok (orc := ⟨[true, false], []⟩) (obl := [decide ((↑i : Int) < (↑N : Int)) = true,
      (0 : Int) ≤ (↑i : Int),
      (↑i : Int) < (↑N : Int),
      Int.toNat (↑i : Int) < N,
      (0 : Int) ≤ (↑i : Int),
      (↑i : Int) < (↑N : Int),
      Int.toNat (↑i : Int) < N,
      (F (Int.toNat (↑i : Int)) != G (Int.toNat (↑i : Int))) = false,
      IntKind.wrap IntKind.i64 ((↑i : Int) + (1 : Int)) = (↑(i + (1 : Nat)) : Int),
      N = N,
      ∀ (i : Nat), i < N → F i = F i ∧ True,
      N = N,
      ∀ (i : Nat), i < N → G i = G i ∧ True]) (by kernel_rfl) (.cons (by exact decide_eq_true (by omega)) (.cons (by (simp [he]; done)) (.cons (by omega) (.cons (by assumption) (.cons (by (simp [he]; done)) (.cons (by omega) (.cons (by assumption) (.cons (by (simp [he]; done)) (.cons (by exact w64 (by omega) (by omega)) (.cons (by rfl) (.cons (by (simp [he]; done)) (.cons (by rfl) (.cons (by (simp [he]; done)) .nil))))))))))))) (Nat.le_of_ble_eq_true (by kernel_rfl))

set_option maxHeartbeats 2000000 in
theorem sme (N : Nat) (F G : Nat → Int) (hN : N ≤ 1000000) : CodeOk Try.prog 2 (loopOf Try.f11 0) (mkSt 26 [(0, .nv (.one (.own 0))), (1, .nv (.one (.own 1))), (5, iA N)] [.ro 1 N (fun i => [.val (.int .i64 (F i))]), .ro 1 N (fun i => [.val (.int .i64 (G i))])]) (.exit 0) (mkSt 26 [] [.ro 1 N (fun i => [.val (.int .i64 (F i))]), .ro 1 N (fun i => [.val (.int .i64 (G i))])]) :=
  code_run G0_ok (orc := ⟨[false], []⟩) (obl := [decide ((↑N : Int) < (↑N : Int)) = false,
      N = N,
      ∀ (i : Nat), i < N → F i = F i ∧ True,
      N = N,
      ∀ (i : Nat), i < N → G i = G i ∧ True]) (by kernel_rfl) (.cons (by exact decide_eq_false (by omega)) (.cons (by rfl) (.cons (by (intro _ _; exact ⟨rfl, trivial⟩)) (.cons (by rfl) (.cons (by (intro _ _; exact ⟨rfl, trivial⟩)) .nil))))) (Nat.le_of_ble_eq_true (by kernel_rfl))

set_option maxHeartbeats 2000000 in
theorem smt (N : Nat) (F G : Nat → Int) (hN : N ≤ 1000000) (l : CodeOk Try.prog 2 (.loop (loopOf Try.f11 0)) (mkSt 26 [(0, .nv (.one (.own 0))), (1, .nv (.one (.own 1))), (5, iA (0 : Nat))] [.ro 1 N (fun i => [.val (.int .i64 (F i))]), .ro 1 N (fun i => [.val (.int .i64 (G i))])]) (.exit 0) (mkSt 26 [] [.ro 1 N (fun i => [.val (.int .i64 (F i))]), .ro 1 N (fun i => [.val (.int .i64 (G i))])])) : FnOk Try.prog 11 ([.nv (.one (.own 0)), .nv (.one (.own 1))]) ([.ro 1 N (fun i => [.val (.int .i64 (F i))]), .ro 1 N (fun i => [.val (.int .i64 (G i))])]) (bA true) ([.gone, .gone]) :=
  fn_run G0_ok Try.func11 (orc := ⟨[false], [⟨mkSt 26 [(0, .nv (.one (.own 0))), (1, .nv (.one (.own 1))), (5, iA (0 : Nat))] [.ro 1 N (fun i => [.val (.int .i64 (F i))]), .ro 1 N (fun i => [.val (.int .i64 (G i))])], .exit 0, mkSt 26 [] [.ro 1 N (fun i => [.val (.int .i64 (F i))]), .ro 1 N (fun i => [.val (.int .i64 (G i))])]⟩]⟩) (obl := [((↑N : Int) != (↑N : Int)) = false,
      (0 : Int) = (↑(0 : Nat) : Int),
      N = N,
      ∀ (i : Nat), i < N → F i = F i ∧ True,
      N = N,
      ∀ (i : Nat), i < N → G i = G i ∧ True,
      (2 : Nat) ≤ (2 : Nat),
      CodeOk Try.prog (2 : Nat) (Code.loop (loopOf Try.f11 (0 : Nat))) (mkSt (26 : Nat) [((0 : Nat), SV.nv (NV.one (At.own (0 : Nat)))), ((1 : Nat), SV.nv (NV.one (At.own (1 : Nat)))), ((5 : Nat), iA (↑(0 : Nat) : Int))] [Seg.ro (1 : Nat) N fun (i : Nat) => [At.val (Value.int IntKind.i64 (F i))], Seg.ro (1 : Nat) N fun (i : Nat) => [At.val (Value.int IntKind.i64 (G i))]]) (Ex.exit (0 : Nat)) (mkSt (26 : Nat) [] [Seg.ro (1 : Nat) N fun (i : Nat) => [At.val (Value.int IntKind.i64 (F i))], Seg.ro (1 : Nat) N fun (i : Nat) => [At.val (Value.int IntKind.i64 (G i))]]),
      true = true]) (by kernel_rfl) (.cons (by exact bne_eq_false_iff_eq.2 (by omega)) (.cons (by rfl) (.cons (by rfl) (.cons (by (intro _ _; exact ⟨rfl, trivial⟩)) (.cons (by rfl) (.cons (by (intro _ _; exact ⟨rfl, trivial⟩)) (.cons (by trivial) (.cons (by assumption) (.cons (by rfl) .nil))))))))) (Nat.le_of_ble_eq_true (by kernel_rfl))

set_option maxHeartbeats 2000000 in
theorem fr_h (N : TkN) (ih : N.L[N.k]? = some (N.x :: N.t)) (n : Nat) (hn : n ≤ 20) (hi : N.k < n) : CodeOk Try.prog 2 (loopOf Try.f10 0) (mkSt 27 [(10, .nv (.one (.own 0))), (11, iA n), (12, iA N.k)] [.ro 1 n (fun j => [.root 1 j true]), .abs (FA N.L)]) .ret (mkSt 27 [(2, iA N.k), (3, iA N.x), (4, bA true)] [.ro 1 n (fun j => [.root 1 j true]), .abs (FA (N.L.set N.k N.t))]) :=
  code_run (Gtk_ok N ih) (orc := ⟨[true, true], []⟩) (obl := [decide ((↑(TkN.k N) : Int) < (↑n : Int)) = true,
      (0 : Int) ≤ (↑(TkN.k N) : Int),
      (↑(TkN.k N) : Int) < (↑n : Int),
      Int.toNat (↑(TkN.k N) : Int) < n,
      Int.toNat (↑(TkN.k N) : Int) = TkN.k N,
      FA (TkN.L N) = FA (TkN.L N),
      true = true,
      (↑(TkN.k N) : Int) = (↑(TkN.k N) : Int),
      TkN.x N = TkN.x N,
      true = true,
      n = n,
      ∀ (i : Nat), i < n → i = i ∧ True,
      FA (List.set (TkN.L N) (TkN.k N) (TkN.t N)) = FA (List.set (TkN.L N) (TkN.k N) (TkN.t N))]) (by kernel_rfl) (.cons (by exact decide_eq_true (by omega)) (.cons (by omega) (.cons (by omega) (.cons (by assumption) (.cons (by rfl) (.cons (by rfl) (.cons (by rfl) (.cons (by rfl) (.cons (by rfl) (.cons (by rfl) (.cons (by rfl) (.cons (by (intro _ _; exact ⟨rfl, trivial⟩)) (.cons (by rfl) .nil))))))))))))) (Nat.le_of_ble_eq_true (by kernel_rfl))

set_option maxHeartbeats 2000000 in
theorem fr_n (N : TkN) (ih : N.L[N.k]? = some []) (n : Nat) (hn : n ≤ 20) (hi : N.k < n) : CodeOk Try.prog 2 (loopOf Try.f10 0) (mkSt 27 [(10, .nv (.one (.own 0))), (11, iA n), (12, iA N.k)] [.ro 1 n (fun j => [.root 1 j true]), .abs (FA N.L)]) .normal (mkSt 27 [(10, .nv (.one (.own 0))), (11, iA n), (12, iA (N.k + 1 : Nat))] [.ro 1 n (fun j => [.root 1 j true]), .abs (FA N.L)]) :=
  code_run (Gtn_ok N ih) (orc := ⟨[true, false], []⟩) (obl := [decide ((↑(TkN.k N) : Int) < (↑n : Int)) = true,
      (0 : Int) ≤ (↑(TkN.k N) : Int),
      (↑(TkN.k N) : Int) < (↑n : Int),
      Int.toNat (↑(TkN.k N) : Int) < n,
      Int.toNat (↑(TkN.k N) : Int) = TkN.k N,
      FA (TkN.L N) = FA (TkN.L N),
      false = false,
      (↑n : Int) = (↑n : Int),
      IntKind.wrap IntKind.i64 ((↑(TkN.k N) : Int) + (1 : Int)) = (↑(TkN.k N + (1 : Nat)) : Int),
      n = n,
      ∀ (i : Nat), i < n → i = i ∧ True,
      FA (TkN.L N) = FA (TkN.L N)]) (by kernel_rfl) (.cons (by exact decide_eq_true (by omega)) (.cons (by omega) (.cons (by omega) (.cons (by assumption) (.cons (by rfl) (.cons (by rfl) (.cons (by rfl) (.cons (by rfl) (.cons (by exact w64 (by omega) (by omega)) (.cons (by rfl) (.cons (by (intro _ _; exact ⟨rfl, trivial⟩)) (.cons (by rfl) .nil)))))))))))) (Nat.le_of_ble_eq_true (by kernel_rfl))

set_option maxHeartbeats 2000000 in
theorem fr_x (L : List (List Int)) (n : Nat) (hn : n ≤ 20) : CodeOk Try.prog 2 (loopOf Try.f10 0) (mkSt 27 [(10, .nv (.one (.own 0))), (11, iA n), (12, iA n)] [.ro 1 n (fun j => [.root 1 j true]), .abs (FA L)]) (.exit 0) (mkSt 27 [] [.ro 1 n (fun j => [.root 1 j true]), .abs (FA L)]) :=
  code_run G0_ok (orc := ⟨[false], []⟩) (obl := [decide ((↑n : Int) < (↑n : Int)) = false,
      n = n,
      ∀ (i : Nat), i < n → i = i ∧ True,
      FA L = FA L]) (by kernel_rfl) (.cons (by exact decide_eq_false (by omega)) (.cons (by rfl) (.cons (by (intro _ _; exact ⟨rfl, trivial⟩)) (.cons (by rfl) .nil)))) (Nat.le_of_ble_eq_true (by kernel_rfl))

set_option maxHeartbeats 2000000 in
theorem fr_fh (L L' : List (List Int)) (n i : Nat) (x : Int) (hn : n ≤ 20) (l0 : CodeOk Try.prog 2 (.loop (loopOf Try.f10 0)) (mkSt 27 [(10, .nv (.one (.own 0))), (11, iA n), (12, iA (0 : Nat))] [.ro 1 n (fun j => [.root 1 j true]), .abs (FA L)]) .ret (mkSt 27 [(2, iA i), (3, iA x), (4, bA true)] [.ro 1 n (fun j => [.root 1 j true]), .abs (FA L')])) : FnOk Try.prog 10 ([.nv (.one (.own 0))]) ([.ro 1 n (fun j => [.root 1 j true]), .abs (FA L)]) (.tup [.one (.val (.int .i64 (i : Nat))), .one (.val (.int .i64 x)), .one (.val (.bool true))]) ([.gone, .abs (FA L')]) :=
  fn_run G0_ok Try.func10 (orc := ⟨[], [⟨mkSt 27 [(10, .nv (.one (.own 0))), (11, iA n), (12, iA (0 : Nat))] [.ro 1 n (fun j => [.root 1 j true]), .abs (FA L)], .ret, mkSt 27 [(2, iA i), (3, iA x), (4, bA true)] [.ro 1 n (fun j => [.root 1 j true]), .abs (FA L')]⟩]⟩) (obl := [(↑n : Int) = (↑n : Int),
      (0 : Int) = (↑(0 : Nat) : Int),
      n = n,
      ∀ (i : Nat), i < n → i = i ∧ True,
      FA L = FA L,
      (2 : Nat) ≤ (2 : Nat),
      CodeOk Try.prog (2 : Nat) (Code.loop (loopOf Try.f10 (0 : Nat))) (mkSt (27 : Nat) [((10 : Nat), SV.nv (NV.one (At.own (0 : Nat)))), ((11 : Nat), iA (↑n : Int)), ((12 : Nat), iA (↑(0 : Nat) : Int))] [Seg.ro (1 : Nat) n fun (j : Nat) => [At.root (1 : Nat) j true], Seg.abs (FA L)]) Ex.ret (mkSt (27 : Nat) [((2 : Nat), iA (↑i : Int)), ((3 : Nat), iA x), ((4 : Nat), bA true)] [Seg.ro (1 : Nat) n fun (j : Nat) => [At.root (1 : Nat) j true], Seg.abs (FA L')]),
      (↑i : Int) = (↑i : Int),
      x = x,
      true = true,
      FA L' = FA L']) (by kernel_rfl) (.cons (by rfl) (.cons (by rfl) (.cons (by rfl) (.cons (by (intro _ _; exact ⟨rfl, trivial⟩)) (.cons (by rfl) (.cons (by trivial) (.cons (by assumption) (.cons (by rfl) (.cons (by rfl) (.cons (by rfl) (.cons (by rfl) .nil))))))))))) (Nat.le_of_ble_eq_true (by kernel_rfl))

set_option maxHeartbeats 2000000 in
theorem fr_fx (L : List (List Int)) (n : Nat) (hn : n ≤ 20) (l0 : CodeOk Try.prog 2 (.loop (loopOf Try.f10 0)) (mkSt 27 [(10, .nv (.one (.own 0))), (11, iA n), (12, iA (0 : Nat))] [.ro 1 n (fun j => [.root 1 j true]), .abs (FA L)]) (.exit 0) (mkSt 27 [] [.ro 1 n (fun j => [.root 1 j true]), .abs (FA L)])) : FnOk Try.prog 10 ([.nv (.one (.own 0))]) ([.ro 1 n (fun j => [.root 1 j true]), .abs (FA L)]) (.tup [.one (.val (.int .i64 0)), .one (.val (.int .i64 0)), .one (.val (.bool false))]) ([.gone, .abs (FA L)]) :=
  fn_run G0_ok Try.func10 (orc := ⟨[], [⟨mkSt 27 [(10, .nv (.one (.own 0))), (11, iA n), (12, iA (0 : Nat))] [.ro 1 n (fun j => [.root 1 j true]), .abs (FA L)], .exit 0, mkSt 27 [] [.ro 1 n (fun j => [.root 1 j true]), .abs (FA L)]⟩]⟩) (obl := [(↑n : Int) = (↑n : Int),
      (0 : Int) = (↑(0 : Nat) : Int),
      n = n,
      ∀ (i : Nat), i < n → i = i ∧ True,
      FA L = FA L,
      (2 : Nat) ≤ (2 : Nat),
      CodeOk Try.prog (2 : Nat) (Code.loop (loopOf Try.f10 (0 : Nat))) (mkSt (27 : Nat) [((10 : Nat), SV.nv (NV.one (At.own (0 : Nat)))), ((11 : Nat), iA (↑n : Int)), ((12 : Nat), iA (↑(0 : Nat) : Int))] [Seg.ro (1 : Nat) n fun (j : Nat) => [At.root (1 : Nat) j true], Seg.abs (FA L)]) (Ex.exit (0 : Nat)) (mkSt (27 : Nat) [] [Seg.ro (1 : Nat) n fun (j : Nat) => [At.root (1 : Nat) j true], Seg.abs (FA L)]),
      (0 : Int) = (0 : Int),
      (0 : Int) = (0 : Int),
      false = false,
      FA L = FA L]) (by kernel_rfl) (.cons (by rfl) (.cons (by rfl) (.cons (by rfl) (.cons (by (intro _ _; exact ⟨rfl, trivial⟩)) (.cons (by rfl) (.cons (by trivial) (.cons (by assumption) (.cons (by rfl) (.cons (by rfl) (.cons (by rfl) (.cons (by rfl) .nil))))))))))) (Nat.le_of_ble_eq_true (by kernel_rfl))
end Go.Proofs.Ytajdkbgbekdbmaa
