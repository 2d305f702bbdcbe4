/- Runs of Go code, as printed by a program: no condition beyond those that each states. -/
import Derived.Test.YtffkakkijifoaaaIvJ
import Derived.Test.YtffkakkijifoaaaChecked
import Derived.KernelRfl
namespace Go.Proofs.Ytffkakkijifoaaa
set_option linter.unusedVariables false
set_option linter.unusedSimpArgs false
set_option maxRecDepth 100000
open Go.RowKit E
attribute [local irreducible] srt IntKind.wrap
set_option maxHeartbeats 2000000 in
theorem se_y (n i j : Nat) (E : Nat → Int) (x : Int) (hn : n ≤ 1000) (hij : i < j) (hj : j ≤ n) (hx : x < E ((i + j) / 2)) : CodeOk Try.prog 3 (loopOf Try.f17 0) (mkSt 26 [(1, .nv (.one (.clo 18 [.ptr 0 0, .ptr 1 0]))), (5, iA i), (6, iA j)] [.robox 22 [.own 2], .robox 24 [.val (.int .u64 x)], .ro 1 n (gU E)]) .normal (mkSt 26 [(1, .nv (.one (.clo 18 [.ptr 0 0, .ptr 1 0]))), (5, iA i), (6, iA ((i + j) / 2 : Nat))] [.robox 22 [.own 2], .robox 24 [.val (.int .u64 x)], .ro 1 n (gU E)]) :=
  code_run Giv1_ok (orc := ⟨[true, false], []⟩) (obl := [decide ((↑i : Int) < (↑j : Int)) = true,
      (0 : Int) ≤ (1 : Int),
      (0 : Int) ≤ IntKind.wrap IntKind.i64 (Int.fdiv (IntKind.wrap IntKind.u64 (IntKind.wrap IntKind.i64 ((↑i : Int) + (↑j : Int)))) ((2 : Int) ^ (1 : Nat))),
      IntKind.wrap IntKind.i64 (Int.fdiv (IntKind.wrap IntKind.u64 (IntKind.wrap IntKind.i64 ((↑i : Int) + (↑j : Int)))) ((2 : Int) ^ (1 : Nat))) < (↑n : Int),
      IntKind.wrap IntKind.i64 (Int.fdiv (IntKind.wrap IntKind.u64 (IntKind.wrap IntKind.i64 ((↑i : Int) + (↑j : Int)))) ((2 : Int) ^ (1 : Nat))) = IntKind.wrap IntKind.i64 (Int.fdiv (IntKind.wrap IntKind.u64 (IntKind.wrap IntKind.i64 ((↑i : Int) + (↑j : Int)))) ((2 : Int) ^ (1 : Nat))),
      (0 : Nat) = (0 : Nat),
      (0 : Nat) = (0 : Nat),
      x = x,
      n = n,
      ∀ (i : Nat), i < n → E i = cF (gU E) i ∧ True,
      (!decide (x < cF (gU E) (Int.toNat (IntKind.wrap IntKind.i64 (Int.fdiv (IntKind.wrap IntKind.u64 (IntKind.wrap IntKind.i64 ((↑i : Int) + (↑j : Int)))) ((2 : Int) ^ (1 : Nat))))))) = false,
      (0 : Nat) = (0 : Nat),
      (0 : Nat) = (0 : Nat),
      (↑i : Int) = (↑i : Int),
      IntKind.wrap IntKind.i64 (Int.fdiv (IntKind.wrap IntKind.u64 (IntKind.wrap IntKind.i64 ((↑i : Int) + (↑j : Int)))) ((2 : Int) ^ (1 : Nat))) = (↑((i + j) / (2 : Nat)) : Int),
      x = x,
      n = n,
      ∀ (i : Nat), i < n → E i = E i ∧ True]) (by kernel_rfl) (.cons (by exact decide_eq_true (by omega)) (.cons (by trivial) (.cons (by (rw [half_w (by omega) (by omega)]; omega)) (.cons (by (rw [half_w (by omega) (by omega)]; omega)) (.cons (by rfl) (.cons (by rfl) (.cons (by rfl) (.cons (by rfl) (.cons (by rfl) (.cons (by (intro _ _; exact ⟨rfl, trivial⟩)) (.cons (by (rw [half_w (by omega) (by omega), Int.toNat_natCast]; show (!decide (x < E ((i + j) / 2))) = _; rw [decide_eq_true hx]; rfl)) (.cons (by rfl) (.cons (by rfl) (.cons (by rfl) (.cons (by exact half_w (by omega) (by omega)) (.cons (by rfl) (.cons (by rfl) (.cons (by (intro _ _; exact ⟨rfl, trivial⟩)) .nil)))))))))))))))))) (Nat.le_of_ble_eq_true (by kernel_rfl))

set_option maxHeartbeats 2000000 in
theorem se_n (n i j : Nat) (E : Nat → Int) (x : Int) (hn : n ≤ 1000) (hij : i < j) (hj : j ≤ n) (hx : ¬ x < E ((i + j) / 2)) : CodeOk Try.prog 3 (loopOf Try.f17 0) (mkSt 26 [(1, .nv (.one (.clo 18 [.ptr 0 0, .ptr 1 0]))), (5, iA i), (6, iA j)] [.robox 22 [.own 2], .robox 24 [.val (.int .u64 x)], .ro 1 n (gU E)]) .normal (mkSt 26 [(1, .nv (.one (.clo 18 [.ptr 0 0, .ptr 1 0]))), (5, iA ((i + j) / 2 + 1 : Nat)), (6, iA j)] [.robox 22 [.own 2], .robox 24 [.val (.int .u64 x)], .ro 1 n (gU E)]) :=
  code_run Giv1_ok (orc := ⟨[true, true], []⟩) (obl := [decide ((↑i : Int) < (↑j : Int)) = true,
      (0 : Int) ≤ (1 : Int),
      (0 : Int) ≤ IntKind.wrap IntKind.i64 (Int.fdiv (IntKind.wrap IntKind.u64 (IntKind.wrap IntKind.i64 ((↑i : Int) + (↑j : Int)))) ((2 : Int) ^ (1 : Nat))),
      IntKind.wrap IntKind.i64 (Int.fdiv (IntKind.wrap IntKind.u64 (IntKind.wrap IntKind.i64 ((↑i : Int) + (↑j : Int)))) ((2 : Int) ^ (1 : Nat))) < (↑n : Int),
      IntKind.wrap IntKind.i64 (Int.fdiv (IntKind.wrap IntKind.u64 (IntKind.wrap IntKind.i64 ((↑i : Int) + (↑j : Int)))) ((2 : Int) ^ (1 : Nat))) = IntKind.wrap IntKind.i64 (Int.fdiv (IntKind.wrap IntKind.u64 (IntKind.wrap IntKind.i64 ((↑i : Int) + (↑j : Int)))) ((2 : Int) ^ (1 : Nat))),
      (0 : Nat) = (0 : Nat),
      (0 : Nat) = (0 : Nat),
      x = x,
      n = n,
      ∀ (i : Nat), i < n → E i = cF (gU E) i ∧ True,
      (!decide (x < cF (gU E) (Int.toNat (IntKind.wrap IntKind.i64 (Int.fdiv (IntKind.wrap IntKind.u64 (IntKind.wrap IntKind.i64 ((↑i : Int) + (↑j : Int)))) ((2 : Int) ^ (1 : Nat))))))) = true,
      (0 : Nat) = (0 : Nat),
      (0 : Nat) = (0 : Nat),
      IntKind.wrap IntKind.i64 (IntKind.wrap IntKind.i64 (Int.fdiv (IntKind.wrap IntKind.u64 (IntKind.wrap IntKind.i64 ((↑i : Int) + (↑j : Int)))) ((2 : Int) ^ (1 : Nat))) + (1 : Int)) = (↑((i + j) / (2 : Nat) + (1 : Nat)) : Int),
      (↑j : Int) = (↑j : Int),
      x = x,
      n = n,
      ∀ (i : Nat), i < n → E i = E i ∧ True]) (by kernel_rfl) (.cons (by exact decide_eq_true (by omega)) (.cons (by trivial) (.cons (by (rw [half_w (by omega) (by omega)]; omega)) (.cons (by (rw [half_w (by omega) (by omega)]; omega)) (.cons (by rfl) (.cons (by rfl) (.cons (by rfl) (.cons (by rfl) (.cons (by rfl) (.cons (by (intro _ _; exact ⟨rfl, trivial⟩)) (.cons (by (rw [half_w (by omega) (by omega), Int.toNat_natCast]; show (!decide (x < E ((i + j) / 2))) = _; rw [decide_eq_false hx]; rfl)) (.cons (by rfl) (.cons (by rfl) (.cons (by (rw [half_w (by omega) (by omega)]; exact w64 (by omega) (by omega))) (.cons (by rfl) (.cons (by rfl) (.cons (by rfl) (.cons (by (intro _ _; exact ⟨rfl, trivial⟩)) .nil)))))))))))))))))) (Nat.le_of_ble_eq_true (by kernel_rfl))

set_option maxHeartbeats 2000000 in
theorem se_e (n i j : Nat) (E : Nat → Int) (x : Int) (hij : ¬ i < j) : CodeOk Try.prog 3 (loopOf Try.f17 0) (mkSt 26 [(1, .nv (.one (.clo 18 [.ptr 0 0, .ptr 1 0]))), (5, iA i), (6, iA j)] [.robox 22 [.own 2], .robox 24 [.val (.int .u64 x)], .ro 1 n (gU E)]) (.exit 0) (mkSt 26 [(5, iA i)] [.robox 22 [.own 2], .robox 24 [.val (.int .u64 x)], .ro 1 n (gU E)]) :=
  code_run Giv1_ok (orc := ⟨[false], []⟩) (obl := [decide ((↑i : Int) < (↑j : Int)) = false,
      (↑i : Int) = (↑i : Int),
      x = x,
      n = n,
      ∀ (i : Nat), i < n → E i = E i ∧ True]) (by kernel_rfl) (.cons (by exact decide_eq_false (by omega)) (.cons (by rfl) (.cons (by rfl) (.cons (by rfl) (.cons (by (intro _ _; exact ⟨rfl, trivial⟩)) .nil))))) (Nat.le_of_ble_eq_true (by kernel_rfl))

set_option maxHeartbeats 2000000 in
theorem se_f (n i : Nat) (E : Nat → Int) (x : Int) (l0 : CodeOk Try.prog 3 (.loop (loopOf Try.f17 0)) (mkSt 26 [(1, .nv (.one (.clo 18 [.ptr 0 0, .ptr 1 0]))), (5, iA (0 : Nat)), (6, iA n)] [.robox 22 [.own 2], .robox 24 [.val (.int .u64 x)], .ro 1 n (gU E)]) (.exit 0) (mkSt 26 [(5, iA i)] [.robox 22 [.own 2], .robox 24 [.val (.int .u64 x)], .ro 1 n (gU E)])) : FnOk Try.prog 17 ([iA n, .nv (.one (.clo 18 [.ptr 0 0, .ptr 1 0]))]) ([.robox 22 [.own 2], .robox 24 [.val (.int .u64 x)], .ro 1 n (gU E)]) (iA i) ([.gone, .gone, .gone]) :=
  fn_run Giv1_ok Try.func17 (orc := ⟨[], [⟨mkSt 26 [(1, .nv (.one (.clo 18 [.ptr 0 0, .ptr 1 0]))), (5, iA (0 : Nat)), (6, iA n)] [.robox 22 [.own 2], .robox 24 [.val (.int .u64 x)], .ro 1 n (gU E)], .exit 0, mkSt 26 [(5, iA i)] [.robox 22 [.own 2], .robox 24 [.val (.int .u64 x)], .ro 1 n (gU E)]⟩]⟩) (obl := [(0 : Nat) = (0 : Nat),
      (0 : Nat) = (0 : Nat),
      (0 : Int) = (↑(0 : Nat) : Int),
      (↑n : Int) = (↑n : Int),
      x = x,
      n = n,
      ∀ (i : Nat), i < n → E i = E i ∧ True,
      (3 : Nat) ≤ (3 : Nat),
      CodeOk Try.prog (3 : Nat) (Code.loop (loopOf Try.f17 (0 : Nat))) (mkSt (26 : Nat) [((1 : Nat), SV.nv (NV.one (At.clo (18 : FuncId) [A0.ptr (0 : Nat) (0 : Nat), A0.ptr (1 : Nat) (0 : Nat)]))), ((5 : Nat), iA (↑(0 : Nat) : Int)), ((6 : Nat), iA (↑n : Int))] [Seg.robox (22 : TypeId) [At.own (2 : Nat)], Seg.robox (24 : TypeId) [At.val (Value.int IntKind.u64 x)], Seg.ro (1 : Nat) n (gU E)]) (Ex.exit (0 : Nat)) (mkSt (26 : Nat) [((5 : Nat), iA (↑i : Int))] [Seg.robox (22 : TypeId) [At.own (2 : Nat)], Seg.robox (24 : TypeId) [At.val (Value.int IntKind.u64 x)], Seg.ro (1 : Nat) n (gU E)]),
      (↑i : Int) = (↑i : Int)]) (by kernel_rfl) (.cons (by rfl) (.cons (by rfl) (.cons (by rfl) (.cons (by rfl) (.cons (by rfl) (.cons (by rfl) (.cons (by (intro _ _; exact ⟨rfl, trivial⟩)) (.cons (by trivial) (.cons (by assumption) (.cons (by rfl) .nil)))))))))) (Nat.le_of_ble_eq_true (by kernel_rfl))

set_option maxHeartbeats 2000000 in
theorem co_r (N : Nat) (L : Nat → Int) (hN : N ≤ 1000) (D : Nat → Int) (c : Int) (i : Nat) (hi : i < N) : CodeOk Try.prog 1 (loopOf Try.f7 0) (mkSt 25 [(5, uA c), (13, .nv (.one (.own 1))), (14, iA N), (15, iA i)] [.ro 1 N (gU L), .row 3 1 N (gI D)]) .normal (mkSt 25 [(5, uA (IntKind.wrap .u64 (c + IntKind.wrap .u64 (D i)))), (13, .nv (.one (.own 1))), (14, iA N), (15, iA (i + 1 : Nat))] [.ro 1 N (gU L), .row 3 1 N (gI D)]) :=
  code_run Giv1_ok (orc := ⟨[true], []⟩) (obl := [decide ((↑i : Int) < (↑N : Int)) = true,
      (0 : Int) ≤ (↑i : Int),
      (↑i : Int) < (↑N : Int),
      Int.toNat (↑i : Int) < N,
      IntKind.wrap IntKind.u64 (c + IntKind.wrap IntKind.u64 (D (Int.toNat (↑i : Int)))) = IntKind.wrap IntKind.u64 (c + IntKind.wrap IntKind.u64 (D i)),
      (↑N : Int) = (↑N : Int),
      IntKind.wrap IntKind.i64 ((↑i : Int) + (1 : Int)) = (↑(i + (1 : Nat)) : Int),
      N = N,
      ∀ (i : Nat), i < N → L i = L i ∧ True,
      N = N,
      ∀ (i : Nat), i < N → D i = D i ∧ True]) (by kernel_rfl) (.cons (by exact decide_eq_true (by omega)) (.cons (by omega) (.cons (by omega) (.cons (by assumption) (.cons (by rfl) (.cons (by rfl) (.cons (by exact w64 (by omega) (by omega)) (.cons (by rfl) (.cons (by (intro _ _; exact ⟨rfl, trivial⟩)) (.cons (by rfl) (.cons (by (intro _ _; exact ⟨rfl, trivial⟩)) .nil))))))))))) (Nat.le_of_ble_eq_true (by kernel_rfl))

set_option maxHeartbeats 2000000 in
theorem co_e (N : Nat) (L : Nat → Int) (hN : N ≤ 1000) (D : Nat → Int) (c : Int) : CodeOk Try.prog 1 (loopOf Try.f7 0) (mkSt 25 [(5, uA c), (13, .nv (.one (.own 1))), (14, iA N), (15, iA N)] [.ro 1 N (gU L), .row 3 1 N (gI D)]) (.exit 0) (mkSt 25 [(5, uA c)] [.ro 1 N (gU L)]) :=
  code_run Giv1_ok (orc := ⟨[false], []⟩) (obl := [decide ((↑N : Int) < (↑N : Int)) = false,
      c = c,
      N = N,
      ∀ (i : Nat), i < N → L i = L i ∧ True]) (by kernel_rfl) (.cons (by exact decide_eq_false (by omega)) (.cons (by rfl) (.cons (by rfl) (.cons (by (intro _ _; exact ⟨rfl, trivial⟩)) .nil)))) (Nat.le_of_ble_eq_true (by kernel_rfl))

set_option maxHeartbeats 2000000 in
theorem co_f (N : Nat) (L : Nat → Int) (hN : N ≤ 1000) (D : Nat → Int) (eD : (srt L N).d = D) (c : Int) (l0 : CodeOk Try.prog 1 (.loop (loopOf Try.f7 0)) (mkSt 25 [(5, uA 0), (13, .nv (.one (.own 1))), (14, iA N), (15, iA (0 : Nat))] [.ro 1 N (gU L), .row 3 1 N (gI D)]) (.exit 0) (mkSt 25 [(5, uA c)] [.ro 1 N (gU L)])) : FnOk Try.prog 7 ([.nv (.one (.own 0))]) ([.ro 1 N (gU L)]) (uA c) ([.gone]) :=
  fn_run Giv1_ok Try.func7 (orc := ⟨[], [⟨mkSt 25 [(5, uA 0), (13, .nv (.one (.own 1))), (14, iA N), (15, iA (0 : Nat))] [.ro 1 N (gU L), .row 3 1 N (gI D)], .exit 0, mkSt 25 [(5, uA c)] [.ro 1 N (gU L)]⟩]⟩) (obl := [N ≤ (1000 : Nat),
      N = N,
      ∀ (i : Nat), i < N → L i = cF (gU L) i ∧ True,
      ∀ (i : Nat), i < N → (true && true) = true,
      ∀ (i : Nat), i < N → (true && true) = true,
      (0 : Int) = (0 : Int),
      (↑N : Int) = (↑N : Int),
      (0 : Int) = (↑(0 : Nat) : Int),
      N = N,
      ∀ (i : Nat), i < N → L i = L i ∧ True,
      N = N,
      ∀ (i : Nat), i < N → Ms.d (srt (cF (gU L)) N) i = D i ∧ True,
      (1 : Nat) ≤ (2 : Nat),
      CodeOk Try.prog (1 : Nat) (Code.loop (loopOf Try.f7 (0 : Nat))) (mkSt (25 : Nat) [((5 : Nat), uA (0 : Int)), ((13 : Nat), SV.nv (NV.one (At.own (1 : Nat)))), ((14 : Nat), iA (↑N : Int)), ((15 : Nat), iA (↑(0 : Nat) : Int))] [Seg.ro (1 : Nat) N (gU L), Seg.row (3 : TypeId) (1 : Nat) N (gI D)]) (Ex.exit (0 : Nat)) (mkSt (25 : Nat) [((5 : Nat), uA c)] [Seg.ro (1 : Nat) N (gU L)]),
      c = c]) (by kernel_rfl) (.cons (by assumption) (.cons (by rfl) (.cons (by (intro _ _; exact ⟨rfl, trivial⟩)) (.cons (by (intro _ _; rfl)) (.cons (by (intro _ _; rfl)) (.cons (by rfl) (.cons (by rfl) (.cons (by rfl) (.cons (by rfl) (.cons (by (intro _ _; exact ⟨rfl, trivial⟩)) (.cons (by rfl) (.cons (by (intro j hj; exact ⟨congrFun eD j, trivial⟩)) (.cons (by trivial) (.cons (by assumption) (.cons (by rfl) .nil))))))))))))))) (Nat.le_of_ble_eq_true (by kernel_rfl))

set_option maxHeartbeats 2000000 in
theorem or_f (N : Nat) (L : Nat → Int) (hN : N ≤ 1000) : FnOk Try.prog 10 ([.nv (.one (.own 0))]) ([.ro 1 N (gU L)]) (.nv (.one (.own 1))) ([.gone, .row 3 1 N (gI (srt L N).p)]) :=
  fn_run Giv1_ok Try.func10 (orc := ⟨[], []⟩) (obl := [N ≤ (1000 : Nat),
      N = N,
      ∀ (i : Nat), i < N → L i = cF (gU L) i ∧ True,
      ∀ (i : Nat), i < N → (true && true) = true,
      ∀ (i : Nat), i < N → (true && true) = true,
      N = N,
      ∀ (i : Nat), i < N → Ms.p (srt (cF (gU L)) N) i = Ms.p (srt L N) i ∧ True]) (by kernel_rfl) (.cons (by assumption) (.cons (by rfl) (.cons (by (intro _ _; exact ⟨rfl, trivial⟩)) (.cons (by (intro _ _; rfl)) (.cons (by (intro _ _; rfl)) (.cons (by rfl) (.cons (by (intro _ _; exact ⟨rfl, trivial⟩)) .nil))))))) (Nat.le_of_ble_eq_true (by kernel_rfl))

set_option maxHeartbeats 2000000 in
theorem la_f (N : Nat) (L : Nat → Int) (hN : N ≤ 1000) : FnOk Try.prog 12 ([.nv (.one (.own 0))]) ([.ro 1 N (gU L)]) (.nv (.one (.own 1))) ([.gone, .row 3 1 N (gI (srt L N).d)]) :=
  fn_run Giv1_ok Try.func12 (orc := ⟨[], []⟩) (obl := [N ≤ (1000 : Nat),
      N = N,
      ∀ (i : Nat), i < N → L i = cF (gU L) i ∧ True,
      ∀ (i : Nat), i < N → (true && true) = true,
      ∀ (i : Nat), i < N → (true && true) = true,
      N = N,
      ∀ (i : Nat), i < N → Ms.d (srt (cF (gU L)) N) i = Ms.d (srt L N) i ∧ True]) (by kernel_rfl) (.cons (by assumption) (.cons (by rfl) (.cons (by (intro _ _; exact ⟨rfl, trivial⟩)) (.cons (by (intro _ _; rfl)) (.cons (by (intro _ _; rfl)) (.cons (by rfl) (.cons (by (intro _ _; exact ⟨rfl, trivial⟩)) .nil))))))) (Nat.le_of_ble_eq_true (by kernel_rfl))
end Go.Proofs.Ytffkakkijifoaaa
