/- Runs of Go code, as printed by a program: no condition beyond those that each states. -/
import Derived.Test.YtffkakkijifoaaaIvF
import Derived.Test.YtffkakkijifoaaaChecked
import Derived.KernelRfl
namespace Go.Proofs.Ytffkakkijifoaaa
set_option linter.unusedVariables false
set_option linter.unusedSimpArgs false
set_option maxRecDepth 100000
open Go.RowKit E
attribute [local irreducible] mrg mgs
set_option maxHeartbeats 2000000 in
theorem so_r (N : Nat) (L : Nat → Int) (hN : N ≤ 1000) (i : Nat) (hi : i < N) : CodeOk Try.prog 1 (loopOf Try.f16 0) (mkSt 30 [(0, .nv (.one (.own 0))), (2, .nv (.one (.own 1))), (3, .nv (.one (.own 2))), (12, iA N), (13, iA i)] [.ro 1 N (gU L), .row 3 1 N (gI (idT i)), .row 3 1 N (gI z0)]) .normal (mkSt 30 [(0, .nv (.one (.own 0))), (2, .nv (.one (.own 1))), (3, .nv (.one (.own 2))), (12, iA N), (13, iA (i + 1 : Nat))] [.ro 1 N (gU L), .row 3 1 N (gI (idT (i + 1))), .row 3 1 N (gI z0)]) :=
  code_run Giv0_ok (orc := ⟨[true], []⟩) (obl := [decide ((↑i : Int) < (↑N : Int)) = true,
      (0 : Int) ≤ (↑i : Int),
      (↑i : Int) < (↑N : Int),
      Int.toNat (↑i : Int) < N,
      (↑N : Int) = (↑N : Int),
      IntKind.wrap IntKind.i64 ((↑i : Int) + (1 : Int)) = (↑(i + (1 : Nat)) : Int),
      N = N,
      ∀ (i : Nat), i < N → L i = L i ∧ True,
      N = N,
      ∀ (i_1 : Nat), i_1 < N → AllT (leAts ([(nat_lit 0, Bd.same (nat_lit 0))] ++ ([((0 : Nat), Bd.same (0 : Nat))] ++ ([((1 : Nat), Bd.same (1 : Nat))] ++ ([((2 : Nat), Bd.same (2 : Nat))] ++ ([] ++ ([] ++ []))))) ++ ([] ++ ([] ++ ([] ++ ([] ++ []))) ++ ([] ++ []))) (3 : Nat) (if i_1 = Int.toNat (↑i : Int) then List.take (0 : Nat) (gI (idT i) (Int.toNat (↑i : Int))) ++ [At.val (Value.int IntKind.i64 (↑i : Int))] ++ List.drop (1 : Nat) (gI (idT i) (Int.toNat (↑i : Int))) else gI (idT i) i_1) (gI (idT (i + (1 : Nat))) i_1)),
      N = N,
      ∀ (i : Nat), i < N → z0 i = z0 i ∧ True]) (by kernel_rfl) (.cons (by exact decide_eq_true (by omega)) (.cons (by omega) (.cons (by omega) (.cons (by assumption) (.cons (by rfl) (.cons (by exact w64 (by omega) (by omega)) (.cons (by rfl) (.cons (by (intro _ _; exact ⟨rfl, trivial⟩)) (.cons (by rfl) (.cons (by (refine leG_eq (fun j hj => ?_) (fun _ _ => rfl); simp only [Int.toNat_natCast, idT, gI]; (repeat' split) <;> simp_all <;> omega)) (.cons (by rfl) (.cons (by (intro _ _; exact ⟨rfl, trivial⟩)) .nil)))))))))))) (Nat.le_of_ble_eq_true (by kernel_rfl))

set_option maxHeartbeats 2000000 in
theorem so_e (N : Nat) (L : Nat → Int) (hN : N ≤ 1000) : CodeOk Try.prog 1 (loopOf Try.f16 0) (mkSt 30 [(0, .nv (.one (.own 0))), (2, .nv (.one (.own 1))), (3, .nv (.one (.own 2))), (12, iA N), (13, iA N)] [.ro 1 N (gU L), .row 3 1 N (gI (idT N)), .row 3 1 N (gI z0)]) (.exit 0) (mkSt 30 [(0, .nv (.one (.own 0))), (2, .nv (.one (.own 1))), (3, .nv (.one (.own 2)))] [.ro 1 N (gU L), .row 3 1 N (gI (idT N)), .row 3 1 N (gI z0)]) :=
  code_run Giv0_ok (orc := ⟨[false], []⟩) (obl := [decide ((↑N : Int) < (↑N : Int)) = false,
      N = N,
      ∀ (i : Nat), i < N → L i = L i ∧ True,
      N = N,
      ∀ (i : Nat), i < N → idT N i = idT N i ∧ True,
      N = N,
      ∀ (i : Nat), i < N → z0 i = z0 i ∧ True]) (by kernel_rfl) (.cons (by exact decide_eq_false (by omega)) (.cons (by rfl) (.cons (by (intro _ _; exact ⟨rfl, trivial⟩)) (.cons (by rfl) (.cons (by (intro _ _; exact ⟨rfl, trivial⟩)) (.cons (by rfl) (.cons (by (intro _ _; exact ⟨rfl, trivial⟩)) .nil))))))) (Nat.le_of_ble_eq_true (by kernel_rfl))

set_option maxHeartbeats 2000000 in
theorem so_f (N : Nat) (L : Nat → Int) (hN : N ≤ 1000) (s : Ms) (e : mrg L N 0 N ⟨idT N, z0, z0⟩ = s) (hi : inN N (idT N)) (l0 : CodeOk Try.prog 1 (.loop (loopOf Try.f16 0)) (mkSt 30 [(0, .nv (.one (.own 0))), (2, .nv (.one (.own 1))), (3, .nv (.one (.own 2))), (12, iA N), (13, iA (0 : Nat))] [.ro 1 N (gU L), .row 3 1 N (gI (idT 0)), .row 3 1 N (gI z0)]) (.exit 0) (mkSt 30 [(0, .nv (.one (.own 0))), (2, .nv (.one (.own 1))), (3, .nv (.one (.own 2)))] [.ro 1 N (gU L), .row 3 1 N (gI (idT N)), .row 3 1 N (gI z0)])) : FnOk Try.prog 16 ([.nv (.one (.own 0))]) ([.ro 1 N (gU L)]) (.tup [.one (.own 1), .one (.own 2)]) ([.gone, .row 3 1 N (gI s.p), .row 3 1 N (gI s.d)]) :=
  fn_run Giv0_ok Try.func16 (orc := ⟨[], [⟨mkSt 30 [(0, .nv (.one (.own 0))), (2, .nv (.one (.own 1))), (3, .nv (.one (.own 2))), (12, iA N), (13, iA (0 : Nat))] [.ro 1 N (gU L), .row 3 1 N (gI (idT 0)), .row 3 1 N (gI z0)], .exit 0, mkSt 30 [(0, .nv (.one (.own 0))), (2, .nv (.one (.own 1))), (3, .nv (.one (.own 2)))] [.ro 1 N (gU L), .row 3 1 N (gI (idT N)), .row 3 1 N (gI z0)]⟩]⟩) (obl := [(0 : Int) ≤ (↑N : Int),
      (↑N : Int) = (↑N : Int),
      (↑(8 : Nat) : Int) * (↑N : Int) ≤ (281474976710656 : Int),
      (↑N : Int) ≤ (4611686018427387904 : Int),
      (0 : Int) ≤ (↑N : Int),
      (↑N : Int) = (↑N : Int),
      (↑(8 : Nat) : Int) * (↑N : Int) ≤ (281474976710656 : Int),
      (↑N : Int) ≤ (4611686018427387904 : Int),
      (↑N : Int) = (↑N : Int),
      (0 : Int) = (↑(0 : Nat) : Int),
      N = N,
      ∀ (i : Nat), i < N → L i = L i ∧ True,
      Int.toNat (↑N : Int) = N,
      ∀ (i : Nat), i < Int.toNat (↑N : Int) → (0 : Int) = idT (0 : Nat) i ∧ True,
      Int.toNat (↑N : Int) = N,
      ∀ (i : Nat), i < Int.toNat (↑N : Int) → (0 : Int) = z0 i ∧ True,
      (1 : Nat) ≤ (3 : Nat),
      CodeOk Try.prog (1 : Nat) (Code.loop (loopOf Try.f16 (0 : Nat))) (mkSt (30 : Nat) [((0 : Nat), SV.nv (NV.one (At.own (0 : Nat)))), ((2 : Nat), SV.nv (NV.one (At.own (1 : Nat)))), ((3 : Nat), SV.nv (NV.one (At.own (2 : Nat)))), ((12 : Nat), iA (↑N : Int)), ((13 : Nat), iA (↑(0 : Nat) : Int))] [Seg.ro (1 : Nat) N (gU L), Seg.row (3 : TypeId) (1 : Nat) N (gI (idT (0 : Nat))), Seg.row (3 : TypeId) (1 : Nat) N (gI z0)]) (Ex.exit (0 : Nat)) (mkSt (30 : Nat) [((0 : Nat), SV.nv (NV.one (At.own (0 : Nat)))), ((2 : Nat), SV.nv (NV.one (At.own (1 : Nat)))), ((3 : Nat), SV.nv (NV.one (At.own (2 : Nat))))] [Seg.ro (1 : Nat) N (gU L), Seg.row (3 : TypeId) (1 : Nat) N (gI (idT N)), Seg.row (3 : TypeId) (1 : Nat) N (gI z0)]),
      (0 : Int) ≤ (↑N : Int),
      (↑N : Int) = (↑N : Int),
      (↑(8 : Nat) : Int) * (↑N : Int) ≤ (281474976710656 : Int),
      (↑N : Int) ≤ (4611686018427387904 : Int),
      N ≤ (1000000 : Nat),
      inN N (cF (gI (idT N))),
      N = N,
      ∀ (i : Nat), i < N → L i = cF (gU L) i ∧ True,
      N = N,
      ∀ (i : Nat), i < N → idT N i = cF (gI (idT N)) i ∧ True,
      Int.toNat (↑N : Int) = N,
      ∀ (i : Nat), i < Int.toNat (↑N : Int) → (0 : Int) = cF (fun (x : Nat) => List.map At.val (Array.toList (Value.cells (Value.int IntKind.i64 (0 : Int))))) i ∧ True,
      N = N,
      ∀ (i : Nat), i < N → z0 i = cF (gI z0) i ∧ True,
      ∀ (i : Nat), i < N → (true && true) = true,
      ∀ (i : Nat), i < N → (true && true) = true,
      ∀ (i : Nat), i < N → (true && true) = true,
      N = N,
      ∀ (i : Nat), i < N → Ms.p (mrg (cF (gU L)) N (0 : Nat) N { p := cF (gI (idT N)), r := cF fun (x : Nat) => List.map At.val (Array.toList (Value.cells (Value.int IntKind.i64 (0 : Int)))), d := cF (gI z0) }) i = Ms.p s i ∧ True,
      N = N,
      ∀ (i : Nat), i < N → Ms.d (mrg (cF (gU L)) N (0 : Nat) N { p := cF (gI (idT N)), r := cF fun (x : Nat) => List.map At.val (Array.toList (Value.cells (Value.int IntKind.i64 (0 : Int)))), d := cF (gI z0) }) i = Ms.d s i ∧ True]) (by kernel_rfl) (.cons (by omega) (.cons (by rfl) (.cons (by omega) (.cons (by omega) (.cons (by omega) (.cons (by rfl) (.cons (by omega) (.cons (by omega) (.cons (by rfl) (.cons (by rfl) (.cons (by rfl) (.cons (by (intro _ _; exact ⟨rfl, trivial⟩)) (.cons (by rfl) (.cons (by (intro _ _; exact ⟨rfl, trivial⟩)) (.cons (by rfl) (.cons (by (intro _ _; exact ⟨rfl, trivial⟩)) (.cons (by trivial) (.cons (by assumption) (.cons (by omega) (.cons (by rfl) (.cons (by omega) (.cons (by omega) (.cons (by omega) (.cons (by assumption) (.cons (by rfl) (.cons (by (intro _ _; exact ⟨rfl, trivial⟩)) (.cons (by rfl) (.cons (by (intro _ _; exact ⟨rfl, trivial⟩)) (.cons (by rfl) (.cons (by (intro _ _; exact ⟨rfl, trivial⟩)) (.cons (by rfl) (.cons (by (intro _ _; exact ⟨rfl, trivial⟩)) (.cons (by (intro _ _; rfl)) (.cons (by (intro _ _; rfl)) (.cons (by (intro _ _; rfl)) (.cons (by rfl) (.cons (by (intro j hj; exact ⟨congrArg (fun q : Ms => q.p j) e, trivial⟩)) (.cons (by rfl) (.cons (by (intro j hj; exact ⟨congrArg (fun q : Ms => q.d j) e, trivial⟩)) .nil))))))))))))))))))))))))))))))))))))))) (Nat.le_of_ble_eq_true (by kernel_rfl))

set_option maxHeartbeats 2000000 in
theorem lt_y (N : Nat) (L : Nat → Int) (hN : N ≤ 1000) (i k : Nat) (F : Nat → Int) (hi : i < N) (hk : k < i) (c : Int) (hc : 0 ≤ c ∧ c ≤ 1000) (hg : L i < L k) : CodeOk Try.prog 1 (loopOf Try.f13 1) (mkSt 34 [(0, .nv (.one (.own 0))), (3, .nv (.one (.own 1))), (4, iA i), (5, iA c), (6, iA k)] [.ro 1 N (gU L), .row 3 1 i (gI F)]) .normal (mkSt 34 [(0, .nv (.one (.own 0))), (3, .nv (.one (.own 1))), (4, iA i), (5, iA (c + 1)), (6, iA (k + 1 : Nat))] [.ro 1 N (gU L), .row 3 1 i (gI F)]) :=
  code_run G0_ok (orc := ⟨[true, true], []⟩) (obl := [decide ((↑k : Int) < (↑i : Int)) = true,
      (0 : Int) ≤ (↑k : Int),
      (↑k : Int) < (↑N : Int),
      Int.toNat (↑k : Int) < N,
      (0 : Int) ≤ (↑i : Int),
      (↑i : Int) < (↑N : Int),
      Int.toNat (↑i : Int) < N,
      decide (L (Int.toNat (↑k : Int)) > L (Int.toNat (↑i : Int))) = true,
      (↑i : Int) = (↑i : Int),
      IntKind.wrap IntKind.i64 (c + (1 : Int)) = c + (1 : Int),
      IntKind.wrap IntKind.i64 ((↑k : Int) + (1 : Int)) = (↑(k + (1 : Nat)) : Int),
      N = N,
      ∀ (i : Nat), i < N → L i = L i ∧ True,
      i = i,
      ∀ (i_1 : Nat), i_1 < i → F i_1 = F i_1 ∧ True]) (by kernel_rfl) (.cons (by exact decide_eq_true (by omega)) (.cons (by omega) (.cons (by omega) (.cons (by omega) (.cons (by omega) (.cons (by omega) (.cons (by assumption) (.cons (by exact decide_eq_true hg) (.cons (by rfl) (.cons (by exact w64 (by omega) (by omega)) (.cons (by exact w64 (by omega) (by omega)) (.cons (by rfl) (.cons (by (intro _ _; exact ⟨rfl, trivial⟩)) (.cons (by rfl) (.cons (by (intro _ _; exact ⟨rfl, trivial⟩)) .nil))))))))))))))) (Nat.le_of_ble_eq_true (by kernel_rfl))

set_option maxHeartbeats 2000000 in
theorem lt_n (N : Nat) (L : Nat → Int) (hN : N ≤ 1000) (i k : Nat) (F : Nat → Int) (hi : i < N) (hk : k < i) (c : Int) (hc : 0 ≤ c ∧ c ≤ 1000) (hg : ¬ L i < L k) : CodeOk Try.prog 1 (loopOf Try.f13 1) (mkSt 34 [(0, .nv (.one (.own 0))), (3, .nv (.one (.own 1))), (4, iA i), (5, iA c), (6, iA k)] [.ro 1 N (gU L), .row 3 1 i (gI F)]) .normal (mkSt 34 [(0, .nv (.one (.own 0))), (3, .nv (.one (.own 1))), (4, iA i), (5, iA c), (6, iA (k + 1 : Nat))] [.ro 1 N (gU L), .row 3 1 i (gI F)]) :=
  code_run G0_ok (orc := ⟨[true, false], []⟩) (obl := [decide ((↑k : Int) < (↑i : Int)) = true,
      (0 : Int) ≤ (↑k : Int),
      (↑k : Int) < (↑N : Int),
      Int.toNat (↑k : Int) < N,
      (0 : Int) ≤ (↑i : Int),
      (↑i : Int) < (↑N : Int),
      Int.toNat (↑i : Int) < N,
      decide (L (Int.toNat (↑k : Int)) > L (Int.toNat (↑i : Int))) = false,
      (↑i : Int) = (↑i : Int),
      c = c,
      IntKind.wrap IntKind.i64 ((↑k : Int) + (1 : Int)) = (↑(k + (1 : Nat)) : Int),
      N = N,
      ∀ (i : Nat), i < N → L i = L i ∧ True,
      i = i,
      ∀ (i_1 : Nat), i_1 < i → F i_1 = F i_1 ∧ True]) (by kernel_rfl) (.cons (by exact decide_eq_true (by omega)) (.cons (by omega) (.cons (by omega) (.cons (by omega) (.cons (by omega) (.cons (by omega) (.cons (by assumption) (.cons (by exact decide_eq_false hg) (.cons (by rfl) (.cons (by rfl) (.cons (by exact w64 (by omega) (by omega)) (.cons (by rfl) (.cons (by (intro _ _; exact ⟨rfl, trivial⟩)) (.cons (by rfl) (.cons (by (intro _ _; exact ⟨rfl, trivial⟩)) .nil))))))))))))))) (Nat.le_of_ble_eq_true (by kernel_rfl))

set_option maxHeartbeats 2000000 in
theorem lt_e (N : Nat) (L : Nat → Int) (hN : N ≤ 1000) (i : Nat) (F : Nat → Int) (c : Int) : CodeOk Try.prog 1 (loopOf Try.f13 1) (mkSt 34 [(0, .nv (.one (.own 0))), (3, .nv (.one (.own 1))), (4, iA i), (5, iA c), (6, iA i)] [.ro 1 N (gU L), .row 3 1 i (gI F)]) (.exit 2) (mkSt 34 [(0, .nv (.one (.own 0))), (3, .nv (.one (.own 1))), (4, iA i), (5, iA c)] [.ro 1 N (gU L), .row 3 1 i (gI F)]) :=
  code_run G0_ok (orc := ⟨[false], []⟩) (obl := [decide ((↑i : Int) < (↑i : Int)) = false,
      (↑i : Int) = (↑i : Int),
      c = c,
      N = N,
      ∀ (i : Nat), i < N → L i = L i ∧ True,
      i = i,
      ∀ (i_1 : Nat), i_1 < i → F i_1 = F i_1 ∧ True]) (by kernel_rfl) (.cons (by exact decide_eq_false (by omega)) (.cons (by rfl) (.cons (by rfl) (.cons (by rfl) (.cons (by (intro _ _; exact ⟨rfl, trivial⟩)) (.cons (by rfl) (.cons (by (intro _ _; exact ⟨rfl, trivial⟩)) .nil))))))) (Nat.le_of_ble_eq_true (by kernel_rfl))

set_option maxHeartbeats 2000000 in
theorem lt_r (N : Nat) (L : Nat → Int) (hN : N ≤ 1000) (i : Nat) (F : Nat → Int) (hi : i < N) (c : Int) (l0 : CodeOk Try.prog 1 (.loop (loopOf Try.f13 1)) (mkSt 34 [(0, .nv (.one (.own 0))), (3, .nv (.one (.own 1))), (4, iA i), (5, iA 0), (6, iA (0 : Nat))] [.ro 1 N (gU L), .row 3 1 i (gI F)]) (.exit 2) (mkSt 34 [(0, .nv (.one (.own 0))), (3, .nv (.one (.own 1))), (4, iA i), (5, iA c)] [.ro 1 N (gU L), .row 3 1 i (gI F)])) : CodeOk Try.prog 1 (loopOf Try.f13 0) (mkSt 34 [(0, .nv (.one (.own 0))), (3, .nv (.one (.own 1))), (4, iA i)] [.ro 1 N (gU L), .row 3 1 i (gI F)]) .normal (mkSt 34 [(0, .nv (.one (.own 0))), (3, .nv (.one (.own 1))), (4, iA (i + 1 : Nat))] [.ro 1 N (gU L), .row 3 1 (i + 1) (gI (putF F i c))]) :=
  code_run G0_ok (orc := ⟨[true], [⟨mkSt 34 [(0, .nv (.one (.own 0))), (3, .nv (.one (.own 1))), (4, iA i), (5, iA 0), (6, iA (0 : Nat))] [.ro 1 N (gU L), .row 3 1 i (gI F)], .exit 2, mkSt 34 [(0, .nv (.one (.own 0))), (3, .nv (.one (.own 1))), (4, iA i), (5, iA c)] [.ro 1 N (gU L), .row 3 1 i (gI F)]⟩]⟩) (obl := [decide ((↑i : Int) < (↑N : Int)) = true,
      (↑i : Int) = (↑i : Int),
      (0 : Int) = (0 : Int),
      (0 : Int) = (↑(0 : Nat) : Int),
      N = N,
      ∀ (i : Nat), i < N → L i = L i ∧ True,
      i = i,
      ∀ (i_1 : Nat), i_1 < i → F i_1 = F i_1 ∧ True,
      (1 : Nat) ≤ (2 : Nat),
      CodeOk Try.prog (1 : Nat) (Code.loop (loopOf Try.f13 (1 : Nat))) (mkSt (34 : Nat) [((0 : Nat), SV.nv (NV.one (At.own (0 : Nat)))), ((3 : Nat), SV.nv (NV.one (At.own (1 : Nat)))), ((4 : Nat), iA (↑i : Int)), ((5 : Nat), iA (0 : Int)), ((6 : Nat), iA (↑(0 : Nat) : Int))] [Seg.ro (1 : Nat) N (gU L), Seg.row (3 : TypeId) (1 : Nat) i (gI F)]) (Ex.exit (2 : Nat)) (mkSt (34 : Nat) [((0 : Nat), SV.nv (NV.one (At.own (0 : Nat)))), ((3 : Nat), SV.nv (NV.one (At.own (1 : Nat)))), ((4 : Nat), iA (↑i : Int)), ((5 : Nat), iA c)] [Seg.ro (1 : Nat) N (gU L), Seg.row (3 : TypeId) (1 : Nat) i (gI F)]),
      i + (1 : Nat) ≤ (4611686018427387904 : Nat),
      (i + (1 : Nat)) * (8 : Nat) ≤ (140737488355328 : Nat),
      IntKind.wrap IntKind.i64 ((↑i : Int) + (1 : Int)) = (↑(i + (1 : Nat)) : Int),
      N = N,
      ∀ (i : Nat), i < N → L i = L i ∧ True,
      i + (1 : Nat) = i + (1 : Nat),
      ∀ (i_1 : Nat), i_1 < i + (1 : Nat) → AllT (leAts ([(nat_lit 0, Bd.same (nat_lit 0))] ++ ([((0 : Nat), Bd.same (0 : Nat))] ++ ([((1 : Nat), Bd.same (3 : Nat))] ++ ([] ++ []))) ++ ([] ++ ([] ++ ([] ++ [])) ++ ([] ++ []))) (2 : Nat) (if i_1 = i then [At.val (Value.int IntKind.i64 c)] else gI F i_1) (gI (putF F i c) i_1))]) (by kernel_rfl) (.cons (by exact decide_eq_true (by omega)) (.cons (by rfl) (.cons (by rfl) (.cons (by rfl) (.cons (by rfl) (.cons (by (intro _ _; exact ⟨rfl, trivial⟩)) (.cons (by rfl) (.cons (by (intro _ _; exact ⟨rfl, trivial⟩)) (.cons (by trivial) (.cons (by assumption) (.cons (by omega) (.cons (by omega) (.cons (by exact w64 (by omega) (by omega)) (.cons (by rfl) (.cons (by (intro _ _; exact ⟨rfl, trivial⟩)) (.cons (by rfl) (.cons (by (refine leG_eq (fun j hj => ?_) (fun _ _ => rfl); simp only [Int.toNat_natCast, putF, gI]; (repeat' split) <;> first | rfl | omega | (subst_vars; rfl) | (simp_all; done) | (exfalso; omega))) .nil))))))))))))))))) (Nat.le_of_ble_eq_true (by kernel_rfl))

set_option maxHeartbeats 2000000 in
theorem lt_x (N : Nat) (L : Nat → Int) (hN : N ≤ 1000) (F : Nat → Int) : CodeOk Try.prog 1 (loopOf Try.f13 0) (mkSt 34 [(0, .nv (.one (.own 0))), (3, .nv (.one (.own 1))), (4, iA N)] [.ro 1 N (gU L), .row 3 1 N (gI F)]) (.exit 0) (mkSt 34 [(3, .nv (.one (.own 1)))] [.ro 1 N (gU L), .row 3 1 N (gI F)]) :=
  code_run G0_ok (orc := ⟨[false], []⟩) (obl := [decide ((↑N : Int) < (↑N : Int)) = false,
      N = N,
      ∀ (i : Nat), i < N → L i = L i ∧ True,
      N = N,
      ∀ (i : Nat), i < N → F i = F i ∧ True]) (by kernel_rfl) (.cons (by exact decide_eq_false (by omega)) (.cons (by rfl) (.cons (by (intro _ _; exact ⟨rfl, trivial⟩)) (.cons (by rfl) (.cons (by (intro _ _; exact ⟨rfl, trivial⟩)) .nil))))) (Nat.le_of_ble_eq_true (by kernel_rfl))

set_option maxHeartbeats 2000000 in
theorem lt_f (N : Nat) (L : Nat → Int) (hN : N ≤ 1000) (F : Nat → Int) (l0 : CodeOk Try.prog 1 (.loop (loopOf Try.f13 0)) (mkSt 34 [(0, .nv (.one (.own 0))), (3, .nv (.one (.own 1))), (4, iA (0 : Nat))] [.ro 1 N (gU L), .row 3 1 0 (gI z0)]) (.exit 0) (mkSt 34 [(3, .nv (.one (.own 1)))] [.ro 1 N (gU L), .row 3 1 N (gI F)])) : FnOk Try.prog 13 ([.nv (.one (.own 0))]) ([.ro 1 N (gU L)]) (.nv (.one (.own 1))) ([.gone, .row 3 1 N (gI F)]) :=
  fn_run G0_ok Try.func13 (orc := ⟨[], [⟨mkSt 34 [(0, .nv (.one (.own 0))), (3, .nv (.one (.own 1))), (4, iA (0 : Nat))] [.ro 1 N (gU L), .row 3 1 0 (gI z0)], .exit 0, mkSt 34 [(3, .nv (.one (.own 1)))] [.ro 1 N (gU L), .row 3 1 N (gI F)]⟩]⟩) (obl := [(0 : Int) = (↑(0 : Nat) : Int),
      N = N,
      ∀ (i : Nat), i < N → L i = L i ∧ True,
      (0 : Nat) = (0 : Nat),
      (1 : Nat) ≤ (2 : Nat),
      CodeOk Try.prog (1 : Nat) (Code.loop (loopOf Try.f13 (0 : Nat))) (mkSt (34 : Nat) [((0 : Nat), SV.nv (NV.one (At.own (0 : Nat)))), ((3 : Nat), SV.nv (NV.one (At.own (1 : Nat)))), ((4 : Nat), iA (↑(0 : Nat) : Int))] [Seg.ro (1 : Nat) N (gU L), Seg.row (3 : TypeId) (1 : Nat) (0 : Nat) (gI z0)]) (Ex.exit (0 : Nat)) (mkSt (34 : Nat) [((3 : Nat), SV.nv (NV.one (At.own (1 : Nat))))] [Seg.ro (1 : Nat) N (gU L), Seg.row (3 : TypeId) (1 : Nat) N (gI F)]),
      N = N,
      ∀ (i : Nat), i < N → F i = F i ∧ True]) (by kernel_rfl) (.cons (by rfl) (.cons (by rfl) (.cons (by (intro _ _; exact ⟨rfl, trivial⟩)) (.cons (by rfl) (.cons (by trivial) (.cons (by assumption) (.cons (by rfl) (.cons (by (intro _ _; exact ⟨rfl, trivial⟩)) .nil)))))))) (Nat.le_of_ble_eq_true (by kernel_rfl))

set_option maxHeartbeats 2000000 in
theorem rc_y (N : Nat) (L : Nat → Int) (hN : N ≤ 1000) (i k : Nat) (hi : i < N) (hk : k < N) (c : Int) (hc : 0 ≤ c ∧ c ≤ 10000000) (hg : L k < L i) : CodeOk Try.prog 1 (loopOf Try.f8 1) (mkSt 32 [(0, .nv (.one (.own 0))), (3, uA c), (4, iA i), (5, iA k)] [.ro 1 N (gU L)]) .normal (mkSt 32 [(0, .nv (.one (.own 0))), (3, uA (c + 1)), (4, iA i), (5, iA (k + 1 : Nat))] [.ro 1 N (gU L)]) :=
  code_run G0_ok (orc := ⟨[true, true], []⟩) (obl := [decide ((↑k : Int) < (↑N : Int)) = true,
      (0 : Int) ≤ (↑i : Int),
      (↑i : Int) < (↑N : Int),
      Int.toNat (↑i : Int) < N,
      (0 : Int) ≤ (↑k : Int),
      (↑k : Int) < (↑N : Int),
      Int.toNat (↑k : Int) < N,
      decide (L (Int.toNat (↑i : Int)) > L (Int.toNat (↑k : Int))) = true,
      IntKind.wrap IntKind.u64 (c + (1 : Int)) = c + (1 : Int),
      (↑i : Int) = (↑i : Int),
      IntKind.wrap IntKind.i64 ((↑k : Int) + (1 : Int)) = (↑(k + (1 : Nat)) : Int),
      N = N,
      ∀ (i : Nat), i < N → L i = L i ∧ True]) (by kernel_rfl) (.cons (by exact decide_eq_true (by omega)) (.cons (by omega) (.cons (by omega) (.cons (by assumption) (.cons (by omega) (.cons (by omega) (.cons (by assumption) (.cons (by exact decide_eq_true hg) (.cons (by exact wU64 (by omega) (by omega)) (.cons (by rfl) (.cons (by exact w64 (by omega) (by omega)) (.cons (by rfl) (.cons (by (intro _ _; exact ⟨rfl, trivial⟩)) .nil))))))))))))) (Nat.le_of_ble_eq_true (by kernel_rfl))

set_option maxHeartbeats 2000000 in
theorem rc_n (N : Nat) (L : Nat → Int) (hN : N ≤ 1000) (i k : Nat) (hi : i < N) (hk : k < N) (c : Int) (hc : 0 ≤ c ∧ c ≤ 10000000) (hg : ¬ L k < L i) : CodeOk Try.prog 1 (loopOf Try.f8 1) (mkSt 32 [(0, .nv (.one (.own 0))), (3, uA c), (4, iA i), (5, iA k)] [.ro 1 N (gU L)]) .normal (mkSt 32 [(0, .nv (.one (.own 0))), (3, uA c), (4, iA i), (5, iA (k + 1 : Nat))] [.ro 1 N (gU L)]) :=
  code_run G0_ok (orc := ⟨[true, false], []⟩) (obl := [decide ((↑k : Int) < (↑N : Int)) = true,
      (0 : Int) ≤ (↑i : Int),
      (↑i : Int) < (↑N : Int),
      Int.toNat (↑i : Int) < N,
      (0 : Int) ≤ (↑k : Int),
      (↑k : Int) < (↑N : Int),
      Int.toNat (↑k : Int) < N,
      decide (L (Int.toNat (↑i : Int)) > L (Int.toNat (↑k : Int))) = false,
      c = c,
      (↑i : Int) = (↑i : Int),
      IntKind.wrap IntKind.i64 ((↑k : Int) + (1 : Int)) = (↑(k + (1 : Nat)) : Int),
      N = N,
      ∀ (i : Nat), i < N → L i = L i ∧ True]) (by kernel_rfl) (.cons (by exact decide_eq_true (by omega)) (.cons (by omega) (.cons (by omega) (.cons (by assumption) (.cons (by omega) (.cons (by omega) (.cons (by assumption) (.cons (by exact decide_eq_false hg) (.cons (by rfl) (.cons (by rfl) (.cons (by exact w64 (by omega) (by omega)) (.cons (by rfl) (.cons (by (intro _ _; exact ⟨rfl, trivial⟩)) .nil))))))))))))) (Nat.le_of_ble_eq_true (by kernel_rfl))

set_option maxHeartbeats 2000000 in
theorem rc_e (N : Nat) (L : Nat → Int) (hN : N ≤ 1000) (i : Nat) (c : Int) : CodeOk Try.prog 1 (loopOf Try.f8 1) (mkSt 32 [(0, .nv (.one (.own 0))), (3, uA c), (4, iA i), (5, iA N)] [.ro 1 N (gU L)]) (.exit 2) (mkSt 32 [(0, .nv (.one (.own 0))), (3, uA c), (4, iA i)] [.ro 1 N (gU L)]) :=
  code_run G0_ok (orc := ⟨[false], []⟩) (obl := [decide ((↑N : Int) < (↑N : Int)) = false,
      c = c,
      (↑i : Int) = (↑i : Int),
      N = N,
      ∀ (i : Nat), i < N → L i = L i ∧ True]) (by kernel_rfl) (.cons (by exact decide_eq_false (by omega)) (.cons (by rfl) (.cons (by rfl) (.cons (by rfl) (.cons (by (intro _ _; exact ⟨rfl, trivial⟩)) .nil))))) (Nat.le_of_ble_eq_true (by kernel_rfl))

set_option maxHeartbeats 2000000 in
theorem rc_r (N : Nat) (L : Nat → Int) (hN : N ≤ 1000) (i : Nat) (hi : i < N) (c d : Int) (l0 : CodeOk Try.prog 1 (.loop (loopOf Try.f8 1)) (mkSt 32 [(0, .nv (.one (.own 0))), (3, uA c), (4, iA i), (5, iA (i + 1 : Nat))] [.ro 1 N (gU L)]) (.exit 2) (mkSt 32 [(0, .nv (.one (.own 0))), (3, uA d), (4, iA i)] [.ro 1 N (gU L)])) : CodeOk Try.prog 1 (loopOf Try.f8 0) (mkSt 32 [(0, .nv (.one (.own 0))), (3, uA c), (4, iA i)] [.ro 1 N (gU L)]) .normal (mkSt 32 [(0, .nv (.one (.own 0))), (3, uA d), (4, iA (i + 1 : Nat))] [.ro 1 N (gU L)]) :=
  code_run G0_ok (orc := ⟨[true], [⟨mkSt 32 [(0, .nv (.one (.own 0))), (3, uA c), (4, iA i), (5, iA (i + 1 : Nat))] [.ro 1 N (gU L)], .exit 2, mkSt 32 [(0, .nv (.one (.own 0))), (3, uA d), (4, iA i)] [.ro 1 N (gU L)]⟩]⟩) (obl := [decide ((↑i : Int) < (↑N : Int)) = true,
      c = c,
      (↑i : Int) = (↑i : Int),
      IntKind.wrap IntKind.i64 ((↑i : Int) + (1 : Int)) = (↑(i + (1 : Nat)) : Int),
      N = N,
      ∀ (i : Nat), i < N → L i = L i ∧ True,
      (1 : Nat) ≤ (1 : Nat),
      CodeOk Try.prog (1 : Nat) (Code.loop (loopOf Try.f8 (1 : Nat))) (mkSt (32 : Nat) [((0 : Nat), SV.nv (NV.one (At.own (0 : Nat)))), ((3 : Nat), uA c), ((4 : Nat), iA (↑i : Int)), ((5 : Nat), iA (↑(i + (1 : Nat)) : Int))] [Seg.ro (1 : Nat) N (gU L)]) (Ex.exit (2 : Nat)) (mkSt (32 : Nat) [((0 : Nat), SV.nv (NV.one (At.own (0 : Nat)))), ((3 : Nat), uA d), ((4 : Nat), iA (↑i : Int))] [Seg.ro (1 : Nat) N (gU L)]),
      d = d,
      IntKind.wrap IntKind.i64 ((↑i : Int) + (1 : Int)) = (↑(i + (1 : Nat)) : Int),
      N = N,
      ∀ (i : Nat), i < N → L i = L i ∧ True]) (by kernel_rfl) (.cons (by exact decide_eq_true (by omega)) (.cons (by rfl) (.cons (by rfl) (.cons (by exact w64 (by omega) (by omega)) (.cons (by rfl) (.cons (by (intro _ _; exact ⟨rfl, trivial⟩)) (.cons (by trivial) (.cons (by assumption) (.cons (by rfl) (.cons (by exact w64 (by omega) (by omega)) (.cons (by rfl) (.cons (by (intro _ _; exact ⟨rfl, trivial⟩)) .nil)))))))))))) (Nat.le_of_ble_eq_true (by kernel_rfl))

set_option maxHeartbeats 2000000 in
theorem rc_x (N : Nat) (L : Nat → Int) (hN : N ≤ 1000) (c : Int) : CodeOk Try.prog 1 (loopOf Try.f8 0) (mkSt 32 [(0, .nv (.one (.own 0))), (3, uA c), (4, iA N)] [.ro 1 N (gU L)]) (.exit 0) (mkSt 32 [(3, uA c)] [.ro 1 N (gU L)]) :=
  code_run G0_ok (orc := ⟨[false], []⟩) (obl := [decide ((↑N : Int) < (↑N : Int)) = false,
      c = c,
      N = N,
      ∀ (i : Nat), i < N → L i = L i ∧ True]) (by kernel_rfl) (.cons (by exact decide_eq_false (by omega)) (.cons (by rfl) (.cons (by rfl) (.cons (by (intro _ _; exact ⟨rfl, trivial⟩)) .nil)))) (Nat.le_of_ble_eq_true (by kernel_rfl))

set_option maxHeartbeats 2000000 in
theorem rc_f (N : Nat) (L : Nat → Int) (hN : N ≤ 1000) (c : Int) (l0 : CodeOk Try.prog 1 (.loop (loopOf Try.f8 0)) (mkSt 32 [(0, .nv (.one (.own 0))), (3, uA 0), (4, iA (0 : Nat))] [.ro 1 N (gU L)]) (.exit 0) (mkSt 32 [(3, uA c)] [.ro 1 N (gU L)])) : FnOk Try.prog 8 ([.nv (.one (.own 0))]) ([.ro 1 N (gU L)]) (uA c) ([.gone]) :=
  fn_run G0_ok Try.func8 (orc := ⟨[], [⟨mkSt 32 [(0, .nv (.one (.own 0))), (3, uA 0), (4, iA (0 : Nat))] [.ro 1 N (gU L)], .exit 0, mkSt 32 [(3, uA c)] [.ro 1 N (gU L)]⟩]⟩) (obl := [(0 : Int) = (0 : Int),
      (0 : Int) = (↑(0 : Nat) : Int),
      N = N,
      ∀ (i : Nat), i < N → L i = L i ∧ True,
      (1 : Nat) ≤ (1 : Nat),
      CodeOk Try.prog (1 : Nat) (Code.loop (loopOf Try.f8 (0 : Nat))) (mkSt (32 : Nat) [((0 : Nat), SV.nv (NV.one (At.own (0 : Nat)))), ((3 : Nat), uA (0 : Int)), ((4 : Nat), iA (↑(0 : Nat) : Int))] [Seg.ro (1 : Nat) N (gU L)]) (Ex.exit (0 : Nat)) (mkSt (32 : Nat) [((3 : Nat), uA c)] [Seg.ro (1 : Nat) N (gU L)]),
      c = c]) (by kernel_rfl) (.cons (by rfl) (.cons (by rfl) (.cons (by rfl) (.cons (by (intro _ _; exact ⟨rfl, trivial⟩)) (.cons (by trivial) (.cons (by assumption) (.cons (by rfl) .nil))))))) (Nat.le_of_ble_eq_true (by kernel_rfl))

set_option maxHeartbeats 2000000 in
theorem oz_r (N : Nat) (L : Nat → Int) (hN : N ≤ 1000) (i : Nat) (hi : i < N) : CodeOk Try.prog 1 (loopOf Try.f11 0) (mkSt 61 [(0, .nv (.one (.own 0))), (3, .nv (.one (.own 1))), (4, iA i)] [.ro 1 N (gU L), .row 3 1 i (gI z0)]) .normal (mkSt 61 [(0, .nv (.one (.own 0))), (3, .nv (.one (.own 1))), (4, iA (i + 1 : Nat))] [.ro 1 N (gU L), .row 3 1 (i + 1) (gI z0)]) :=
  code_run G0_ok (orc := ⟨[true], []⟩) (obl := [decide ((↑i : Int) < (↑N : Int)) = true,
      i + (1 : Nat) ≤ (4611686018427387904 : Nat),
      (i + (1 : Nat)) * (8 : Nat) ≤ (140737488355328 : Nat),
      IntKind.wrap IntKind.i64 ((↑i : Int) + (1 : Int)) = (↑(i + (1 : Nat)) : Int),
      N = N,
      ∀ (i : Nat), i < N → L i = L i ∧ True,
      i + (1 : Nat) = i + (1 : Nat),
      ∀ (i_1 : Nat), i_1 < i + (1 : Nat) → AllT (leAts ([(nat_lit 0, Bd.same (nat_lit 0))] ++ ([((0 : Nat), Bd.same (0 : Nat))] ++ ([((1 : Nat), Bd.same (3 : Nat))] ++ ([] ++ []))) ++ ([] ++ ([] ++ ([] ++ [])) ++ ([] ++ []))) (2 : Nat) (if i_1 = i then [At.val (Value.int IntKind.i64 (0 : Int))] else gI z0 i_1) (gI z0 i_1))]) (by kernel_rfl) (.cons (by exact decide_eq_true (by omega)) (.cons (by omega) (.cons (by omega) (.cons (by exact w64 (by omega) (by omega)) (.cons (by rfl) (.cons (by (intro _ _; exact ⟨rfl, trivial⟩)) (.cons (by rfl) (.cons (by (refine leG_eq (fun j hj => ?_) (fun _ _ => rfl); simp only [Int.toNat_natCast, putF, gI]; (repeat' split) <;> first | rfl | omega | (subst_vars; rfl) | (simp_all; done) | (exfalso; omega))) .nil)))))))) (Nat.le_of_ble_eq_true (by kernel_rfl))

set_option maxHeartbeats 2000000 in
theorem oz_e (N : Nat) (L : Nat → Int) (hN : N ≤ 1000) : CodeOk Try.prog 1 (loopOf Try.f11 0) (mkSt 61 [(0, .nv (.one (.own 0))), (3, .nv (.one (.own 1))), (4, iA N)] [.ro 1 N (gU L), .row 3 1 N (gI z0)]) (.exit 0) (mkSt 61 [(0, .nv (.one (.own 0))), (3, .nv (.one (.own 1)))] [.ro 1 N (gU L), .row 3 1 N (gI z0)]) :=
  code_run G0_ok (orc := ⟨[false], []⟩) (obl := [decide ((↑N : Int) < (↑N : Int)) = false,
      N = N,
      ∀ (i : Nat), i < N → L i = L i ∧ True,
      N = N,
      ∀ (i : Nat), i < N → z0 i = z0 i ∧ True]) (by kernel_rfl) (.cons (by exact decide_eq_false (by omega)) (.cons (by rfl) (.cons (by (intro _ _; exact ⟨rfl, trivial⟩)) (.cons (by rfl) (.cons (by (intro _ _; exact ⟨rfl, trivial⟩)) .nil))))) (Nat.le_of_ble_eq_true (by kernel_rfl))

set_option maxHeartbeats 2000000 in
theorem oi_y (N : Nat) (L : Nat → Int) (hN : N ≤ 1000) (i k : Nat) (F : Nat → Int) (hi : i < N) (hk : k < N) (c : Int) (hc : 0 ≤ c ∧ c ≤ 1000) (hg : L k < L i) : CodeOk Try.prog 1 (loopOf Try.f11 2) (mkSt 61 [(0, .nv (.one (.own 0))), (3, .nv (.one (.own 1))), (5, iA i), (6, iA c), (7, iA k)] [.ro 1 N (gU L), .row 3 1 N (gI F)]) .normal (mkSt 61 [(0, .nv (.one (.own 0))), (3, .nv (.one (.own 1))), (5, iA i), (6, iA (c + 1)), (7, iA (k + 1 : Nat))] [.ro 1 N (gU L), .row 3 1 N (gI F)]) :=
  code_run G0_ok (orc := ⟨[true, true, true], []⟩) (obl := [decide ((↑k : Int) < (↑N : Int)) = true,
      (0 : Int) ≤ (↑k : Int),
      (↑k : Int) < (↑N : Int),
      Int.toNat (↑k : Int) < N,
      (0 : Int) ≤ (↑i : Int),
      (↑i : Int) < (↑N : Int),
      Int.toNat (↑i : Int) < N,
      decide (L (Int.toNat (↑k : Int)) < L (Int.toNat (↑i : Int))) = true,
      true = true,
      (↑i : Int) = (↑i : Int),
      IntKind.wrap IntKind.i64 (c + (1 : Int)) = c + (1 : Int),
      IntKind.wrap IntKind.i64 ((↑k : Int) + (1 : Int)) = (↑(k + (1 : Nat)) : Int),
      N = N,
      ∀ (i : Nat), i < N → L i = L i ∧ True,
      N = N,
      ∀ (i : Nat), i < N → F i = F i ∧ True]) (by kernel_rfl) (.cons (by exact decide_eq_true (by omega)) (.cons (by omega) (.cons (by omega) (.cons (by assumption) (.cons (by omega) (.cons (by omega) (.cons (by assumption) (.cons (by exact decide_eq_true hg) (.cons (by rfl) (.cons (by rfl) (.cons (by exact w64 (by omega) (by omega)) (.cons (by exact w64 (by omega) (by omega)) (.cons (by rfl) (.cons (by (intro _ _; exact ⟨rfl, trivial⟩)) (.cons (by rfl) (.cons (by (intro _ _; exact ⟨rfl, trivial⟩)) .nil)))))))))))))))) (Nat.le_of_ble_eq_true (by kernel_rfl))

set_option maxHeartbeats 2000000 in
theorem oi_z (N : Nat) (L : Nat → Int) (hN : N ≤ 1000) (i k : Nat) (F : Nat → Int) (hi : i < N) (hk : k < N) (c : Int) (hc : 0 ≤ c ∧ c ≤ 1000) (hg : ¬ L k < L i) (he : L k = L i) (hl : k < i) : CodeOk Try.prog 1 (loopOf Try.f11 2) (mkSt 61 [(0, .nv (.one (.own 0))), (3, .nv (.one (.own 1))), (5, iA i), (6, iA c), (7, iA k)] [.ro 1 N (gU L), .row 3 1 N (gI F)]) .normal (mkSt 61 [(0, .nv (.one (.own 0))), (3, .nv (.one (.own 1))), (5, iA i), (6, iA (c + 1)), (7, iA (k + 1 : Nat))] [.ro 1 N (gU L), .row 3 1 N (gI F)]) :=
  code_run G0_ok (orc := ⟨[true, false, true, true], []⟩) (obl := [decide ((↑k : Int) < (↑N : Int)) = true,
      (0 : Int) ≤ (↑k : Int),
      (↑k : Int) < (↑N : Int),
      Int.toNat (↑k : Int) < N,
      (0 : Int) ≤ (↑i : Int),
      (↑i : Int) < (↑N : Int),
      Int.toNat (↑i : Int) < N,
      decide (L (Int.toNat (↑k : Int)) < L (Int.toNat (↑i : Int))) = false,
      (0 : Int) ≤ (↑k : Int),
      (↑k : Int) < (↑N : Int),
      Int.toNat (↑k : Int) < N,
      (0 : Int) ≤ (↑i : Int),
      (↑i : Int) < (↑N : Int),
      Int.toNat (↑i : Int) < N,
      (L (Int.toNat (↑k : Int)) == L (Int.toNat (↑i : Int))) = true,
      decide ((↑k : Int) < (↑i : Int)) = true,
      (↑i : Int) = (↑i : Int),
      IntKind.wrap IntKind.i64 (c + (1 : Int)) = c + (1 : Int),
      IntKind.wrap IntKind.i64 ((↑k : Int) + (1 : Int)) = (↑(k + (1 : Nat)) : Int),
      N = N,
      ∀ (i : Nat), i < N → L i = L i ∧ True,
      N = N,
      ∀ (i : Nat), i < N → F i = F i ∧ True]) (by kernel_rfl) (.cons (by exact decide_eq_true (by omega)) (.cons (by omega) (.cons (by omega) (.cons (by assumption) (.cons (by omega) (.cons (by omega) (.cons (by assumption) (.cons (by exact decide_eq_false hg) (.cons (by omega) (.cons (by omega) (.cons (by assumption) (.cons (by omega) (.cons (by omega) (.cons (by assumption) (.cons (by exact beq_iff_eq.2 he) (.cons (by exact decide_eq_true (by omega)) (.cons (by rfl) (.cons (by exact w64 (by omega) (by omega)) (.cons (by exact w64 (by omega) (by omega)) (.cons (by rfl) (.cons (by (intro _ _; exact ⟨rfl, trivial⟩)) (.cons (by rfl) (.cons (by (intro _ _; exact ⟨rfl, trivial⟩)) .nil))))))))))))))))))))))) (Nat.le_of_ble_eq_true (by kernel_rfl))

set_option maxHeartbeats 2000000 in
theorem oi_n (N : Nat) (L : Nat → Int) (hN : N ≤ 1000) (i k : Nat) (F : Nat → Int) (hi : i < N) (hk : k < N) (c : Int) (hc : 0 ≤ c ∧ c ≤ 1000) (hg : ¬ L k < L i) (he : ¬ L k = L i) : CodeOk Try.prog 1 (loopOf Try.f11 2) (mkSt 61 [(0, .nv (.one (.own 0))), (3, .nv (.one (.own 1))), (5, iA i), (6, iA c), (7, iA k)] [.ro 1 N (gU L), .row 3 1 N (gI F)]) .normal (mkSt 61 [(0, .nv (.one (.own 0))), (3, .nv (.one (.own 1))), (5, iA i), (6, iA c), (7, iA (k + 1 : Nat))] [.ro 1 N (gU L), .row 3 1 N (gI F)]) :=
  code_run G0_ok (orc := ⟨[true, false, false, false], []⟩) (obl := [decide ((↑k : Int) < (↑N : Int)) = true,
      (0 : Int) ≤ (↑k : Int),
      (↑k : Int) < (↑N : Int),
      Int.toNat (↑k : Int) < N,
      (0 : Int) ≤ (↑i : Int),
      (↑i : Int) < (↑N : Int),
      Int.toNat (↑i : Int) < N,
      decide (L (Int.toNat (↑k : Int)) < L (Int.toNat (↑i : Int))) = false,
      (0 : Int) ≤ (↑k : Int),
      (↑k : Int) < (↑N : Int),
      Int.toNat (↑k : Int) < N,
      (0 : Int) ≤ (↑i : Int),
      (↑i : Int) < (↑N : Int),
      Int.toNat (↑i : Int) < N,
      (L (Int.toNat (↑k : Int)) == L (Int.toNat (↑i : Int))) = false,
      false = false,
      (↑i : Int) = (↑i : Int),
      c = c,
      IntKind.wrap IntKind.i64 ((↑k : Int) + (1 : Int)) = (↑(k + (1 : Nat)) : Int),
      N = N,
      ∀ (i : Nat), i < N → L i = L i ∧ True,
      N = N,
      ∀ (i : Nat), i < N → F i = F i ∧ True]) (by kernel_rfl) (.cons (by exact decide_eq_true (by omega)) (.cons (by omega) (.cons (by omega) (.cons (by assumption) (.cons (by omega) (.cons (by omega) (.cons (by assumption) (.cons (by exact decide_eq_false hg) (.cons (by omega) (.cons (by omega) (.cons (by assumption) (.cons (by omega) (.cons (by omega) (.cons (by assumption) (.cons (by exact beq_eq_false_iff_ne.2 he) (.cons (by rfl) (.cons (by rfl) (.cons (by rfl) (.cons (by exact w64 (by omega) (by omega)) (.cons (by rfl) (.cons (by (intro _ _; exact ⟨rfl, trivial⟩)) (.cons (by rfl) (.cons (by (intro _ _; exact ⟨rfl, trivial⟩)) .nil))))))))))))))))))))))) (Nat.le_of_ble_eq_true (by kernel_rfl))

set_option maxHeartbeats 2000000 in
theorem oi_m (N : Nat) (L : Nat → Int) (hN : N ≤ 1000) (i k : Nat) (F : Nat → Int) (hi : i < N) (hk : k < N) (c : Int) (hc : 0 ≤ c ∧ c ≤ 1000) (hg : ¬ L k < L i) (he : L k = L i) (hl : ¬ k < i) : CodeOk Try.prog 1 (loopOf Try.f11 2) (mkSt 61 [(0, .nv (.one (.own 0))), (3, .nv (.one (.own 1))), (5, iA i), (6, iA c), (7, iA k)] [.ro 1 N (gU L), .row 3 1 N (gI F)]) .normal (mkSt 61 [(0, .nv (.one (.own 0))), (3, .nv (.one (.own 1))), (5, iA i), (6, iA c), (7, iA (k + 1 : Nat))] [.ro 1 N (gU L), .row 3 1 N (gI F)]) :=
  code_run G0_ok (orc := ⟨[true, false, true, false], []⟩) (obl := [decide ((↑k : Int) < (↑N : Int)) = true,
      (0 : Int) ≤ (↑k : Int),
      (↑k : Int) < (↑N : Int),
      Int.toNat (↑k : Int) < N,
      (0 : Int) ≤ (↑i : Int),
      (↑i : Int) < (↑N : Int),
      Int.toNat (↑i : Int) < N,
      decide (L (Int.toNat (↑k : Int)) < L (Int.toNat (↑i : Int))) = false,
      (0 : Int) ≤ (↑k : Int),
      (↑k : Int) < (↑N : Int),
      Int.toNat (↑k : Int) < N,
      (0 : Int) ≤ (↑i : Int),
      (↑i : Int) < (↑N : Int),
      Int.toNat (↑i : Int) < N,
      (L (Int.toNat (↑k : Int)) == L (Int.toNat (↑i : Int))) = true,
      decide ((↑k : Int) < (↑i : Int)) = false,
      (↑i : Int) = (↑i : Int),
      c = c,
      IntKind.wrap IntKind.i64 ((↑k : Int) + (1 : Int)) = (↑(k + (1 : Nat)) : Int),
      N = N,
      ∀ (i : Nat), i < N → L i = L i ∧ True,
      N = N,
      ∀ (i : Nat), i < N → F i = F i ∧ True]) (by kernel_rfl) (.cons (by exact decide_eq_true (by omega)) (.cons (by omega) (.cons (by omega) (.cons (by assumption) (.cons (by omega) (.cons (by omega) (.cons (by assumption) (.cons (by exact decide_eq_false hg) (.cons (by omega) (.cons (by omega) (.cons (by assumption) (.cons (by omega) (.cons (by omega) (.cons (by assumption) (.cons (by exact beq_iff_eq.2 he) (.cons (by exact decide_eq_false (by omega)) (.cons (by rfl) (.cons (by rfl) (.cons (by exact w64 (by omega) (by omega)) (.cons (by rfl) (.cons (by (intro _ _; exact ⟨rfl, trivial⟩)) (.cons (by rfl) (.cons (by (intro _ _; exact ⟨rfl, trivial⟩)) .nil))))))))))))))))))))))) (Nat.le_of_ble_eq_true (by kernel_rfl))

set_option maxHeartbeats 2000000 in
theorem oi_e (N : Nat) (L : Nat → Int) (hN : N ≤ 1000) (i : Nat) (F : Nat → Int) (c : Int) : CodeOk Try.prog 1 (loopOf Try.f11 2) (mkSt 61 [(0, .nv (.one (.own 0))), (3, .nv (.one (.own 1))), (5, iA i), (6, iA c), (7, iA N)] [.ro 1 N (gU L), .row 3 1 N (gI F)]) (.exit 4) (mkSt 61 [(0, .nv (.one (.own 0))), (3, .nv (.one (.own 1))), (5, iA i), (6, iA c)] [.ro 1 N (gU L), .row 3 1 N (gI F)]) :=
  code_run G0_ok (orc := ⟨[false], []⟩) (obl := [decide ((↑N : Int) < (↑N : Int)) = false,
      (↑i : Int) = (↑i : Int),
      c = c,
      N = N,
      ∀ (i : Nat), i < N → L i = L i ∧ True,
      N = N,
      ∀ (i : Nat), i < N → F i = F i ∧ True]) (by kernel_rfl) (.cons (by exact decide_eq_false (by omega)) (.cons (by rfl) (.cons (by rfl) (.cons (by rfl) (.cons (by (intro _ _; exact ⟨rfl, trivial⟩)) (.cons (by rfl) (.cons (by (intro _ _; exact ⟨rfl, trivial⟩)) .nil))))))) (Nat.le_of_ble_eq_true (by kernel_rfl))

set_option maxHeartbeats 2000000 in
theorem oo_r (N : Nat) (L : Nat → Int) (hN : N ≤ 1000) (i c : Nat) (F : Nat → Int) (hi : i < N) (hc : c < N) (l0 : CodeOk Try.prog 1 (.loop (loopOf Try.f11 2)) (mkSt 61 [(0, .nv (.one (.own 0))), (3, .nv (.one (.own 1))), (5, iA i), (6, iA 0), (7, iA (0 : Nat))] [.ro 1 N (gU L), .row 3 1 N (gI F)]) (.exit 4) (mkSt 61 [(0, .nv (.one (.own 0))), (3, .nv (.one (.own 1))), (5, iA i), (6, iA c)] [.ro 1 N (gU L), .row 3 1 N (gI F)])) : CodeOk Try.prog 1 (loopOf Try.f11 1) (mkSt 61 [(0, .nv (.one (.own 0))), (3, .nv (.one (.own 1))), (5, iA i)] [.ro 1 N (gU L), .row 3 1 N (gI F)]) .normal (mkSt 61 [(0, .nv (.one (.own 0))), (3, .nv (.one (.own 1))), (5, iA (i + 1 : Nat))] [.ro 1 N (gU L), .row 3 1 N (gI (putF F c i))]) :=
  code_run G0_ok (orc := ⟨[true], [⟨mkSt 61 [(0, .nv (.one (.own 0))), (3, .nv (.one (.own 1))), (5, iA i), (6, iA 0), (7, iA (0 : Nat))] [.ro 1 N (gU L), .row 3 1 N (gI F)], .exit 4, mkSt 61 [(0, .nv (.one (.own 0))), (3, .nv (.one (.own 1))), (5, iA i), (6, iA c)] [.ro 1 N (gU L), .row 3 1 N (gI F)]⟩]⟩) (obl := [decide ((↑i : Int) < (↑N : Int)) = true,
      (↑i : Int) = (↑i : Int),
      (0 : Int) = (0 : Int),
      (0 : Int) = (↑(0 : Nat) : Int),
      N = N,
      ∀ (i : Nat), i < N → L i = L i ∧ True,
      N = N,
      ∀ (i : Nat), i < N → F i = F i ∧ True,
      (1 : Nat) ≤ (2 : Nat),
      CodeOk Try.prog (1 : Nat) (Code.loop (loopOf Try.f11 (2 : Nat))) (mkSt (61 : Nat) [((0 : Nat), SV.nv (NV.one (At.own (0 : Nat)))), ((3 : Nat), SV.nv (NV.one (At.own (1 : Nat)))), ((5 : Nat), iA (↑i : Int)), ((6 : Nat), iA (0 : Int)), ((7 : Nat), iA (↑(0 : Nat) : Int))] [Seg.ro (1 : Nat) N (gU L), Seg.row (3 : TypeId) (1 : Nat) N (gI F)]) (Ex.exit (4 : Nat)) (mkSt (61 : Nat) [((0 : Nat), SV.nv (NV.one (At.own (0 : Nat)))), ((3 : Nat), SV.nv (NV.one (At.own (1 : Nat)))), ((5 : Nat), iA (↑i : Int)), ((6 : Nat), iA (↑c : Int))] [Seg.ro (1 : Nat) N (gU L), Seg.row (3 : TypeId) (1 : Nat) N (gI F)]),
      (0 : Int) ≤ (↑c : Int),
      (↑c : Int) < (↑N : Int),
      Int.toNat (↑c : Int) < N,
      IntKind.wrap IntKind.i64 ((↑i : Int) + (1 : Int)) = (↑(i + (1 : Nat)) : Int),
      N = N,
      ∀ (i : Nat), i < N → L i = L i ∧ True,
      N = N,
      ∀ (i_1 : Nat), i_1 < N → AllT (leAts ([(nat_lit 0, Bd.same (nat_lit 0))] ++ ([((0 : Nat), Bd.same (0 : Nat))] ++ ([((1 : Nat), Bd.same (1 : Nat))] ++ ([] ++ []))) ++ ([] ++ ([] ++ ([] ++ [])) ++ ([] ++ []))) (2 : Nat) (if i_1 = Int.toNat (↑c : Int) then List.take (0 : Nat) (gI F (Int.toNat (↑c : Int))) ++ [At.val (Value.int IntKind.i64 (↑i : Int))] ++ List.drop (1 : Nat) (gI F (Int.toNat (↑c : Int))) else gI F i_1) (gI (putF F c (↑i : Int)) i_1))]) (by kernel_rfl) (.cons (by exact decide_eq_true (by omega)) (.cons (by rfl) (.cons (by rfl) (.cons (by rfl) (.cons (by rfl) (.cons (by (intro _ _; exact ⟨rfl, trivial⟩)) (.cons (by rfl) (.cons (by (intro _ _; exact ⟨rfl, trivial⟩)) (.cons (by trivial) (.cons (by assumption) (.cons (by omega) (.cons (by omega) (.cons (by assumption) (.cons (by exact w64 (by omega) (by omega)) (.cons (by rfl) (.cons (by (intro _ _; exact ⟨rfl, trivial⟩)) (.cons (by rfl) (.cons (by (refine leG_eq (fun j hj => ?_) (fun _ _ => rfl); simp only [Int.toNat_natCast, putF, gI]; split <;> simp_all)) .nil)))))))))))))))))) (Nat.le_of_ble_eq_true (by kernel_rfl))

set_option maxHeartbeats 2000000 in
theorem oo_e (N : Nat) (L : Nat → Int) (hN : N ≤ 1000) (F : Nat → Int) : CodeOk Try.prog 1 (loopOf Try.f11 1) (mkSt 61 [(0, .nv (.one (.own 0))), (3, .nv (.one (.own 1))), (5, iA N)] [.ro 1 N (gU L), .row 3 1 N (gI F)]) (.exit 2) (mkSt 61 [(3, .nv (.one (.own 1)))] [.ro 1 N (gU L), .row 3 1 N (gI F)]) :=
  code_run G0_ok (orc := ⟨[false], []⟩) (obl := [decide ((↑N : Int) < (↑N : Int)) = false,
      N = N,
      ∀ (i : Nat), i < N → L i = L i ∧ True,
      N = N,
      ∀ (i : Nat), i < N → F i = F i ∧ True]) (by kernel_rfl) (.cons (by exact decide_eq_false (by omega)) (.cons (by rfl) (.cons (by (intro _ _; exact ⟨rfl, trivial⟩)) (.cons (by rfl) (.cons (by (intro _ _; exact ⟨rfl, trivial⟩)) .nil))))) (Nat.le_of_ble_eq_true (by kernel_rfl))

set_option maxHeartbeats 2000000 in
theorem oo_f (N : Nat) (L : Nat → Int) (hN : N ≤ 1000) (F : Nat → Int) (l0 : CodeOk Try.prog 1 (.loop (loopOf Try.f11 0)) (mkSt 61 [(0, .nv (.one (.own 0))), (3, .nv (.one (.own 1))), (4, iA (0 : Nat))] [.ro 1 N (gU L), .row 3 1 0 (gI z0)]) (.exit 0) (mkSt 61 [(0, .nv (.one (.own 0))), (3, .nv (.one (.own 1)))] [.ro 1 N (gU L), .row 3 1 N (gI z0)])) (l1 : CodeOk Try.prog 1 (.loop (loopOf Try.f11 1)) (mkSt 61 [(0, .nv (.one (.own 0))), (3, .nv (.one (.own 1))), (5, iA (0 : Nat))] [.ro 1 N (gU L), .row 3 1 N (gI z0)]) (.exit 2) (mkSt 61 [(3, .nv (.one (.own 1)))] [.ro 1 N (gU L), .row 3 1 N (gI F)])) : FnOk Try.prog 11 ([.nv (.one (.own 0))]) ([.ro 1 N (gU L)]) (.nv (.one (.own 1))) ([.gone, .row 3 1 N (gI F)]) :=
  fn_run G0_ok Try.func11 (orc := ⟨[], [⟨mkSt 61 [(0, .nv (.one (.own 0))), (3, .nv (.one (.own 1))), (4, iA (0 : Nat))] [.ro 1 N (gU L), .row 3 1 0 (gI z0)], .exit 0, mkSt 61 [(0, .nv (.one (.own 0))), (3, .nv (.one (.own 1)))] [.ro 1 N (gU L), .row 3 1 N (gI z0)]⟩, ⟨mkSt 61 [(0, .nv (.one (.own 0))), (3, .nv (.one (.own 1))), (5, iA (0 : Nat))] [.ro 1 N (gU L), .row 3 1 N (gI z0)], .exit 2, mkSt 61 [(3, .nv (.one (.own 1)))] [.ro 1 N (gU L), .row 3 1 N (gI F)]⟩]⟩) (obl := [(0 : Int) = (↑(0 : Nat) : Int),
      N = N,
      ∀ (i : Nat), i < N → L i = L i ∧ True,
      (0 : Nat) = (0 : Nat),
      (1 : Nat) ≤ (2 : Nat),
      CodeOk Try.prog (1 : Nat) (Code.loop (loopOf Try.f11 (0 : Nat))) (mkSt (61 : Nat) [((0 : Nat), SV.nv (NV.one (At.own (0 : Nat)))), ((3 : Nat), SV.nv (NV.one (At.own (1 : Nat)))), ((4 : Nat), iA (↑(0 : Nat) : Int))] [Seg.ro (1 : Nat) N (gU L), Seg.row (3 : TypeId) (1 : Nat) (0 : Nat) (gI z0)]) (Ex.exit (0 : Nat)) (mkSt (61 : Nat) [((0 : Nat), SV.nv (NV.one (At.own (0 : Nat)))), ((3 : Nat), SV.nv (NV.one (At.own (1 : Nat))))] [Seg.ro (1 : Nat) N (gU L), Seg.row (3 : TypeId) (1 : Nat) N (gI z0)]),
      (0 : Int) = (↑(0 : Nat) : Int),
      N = N,
      ∀ (i : Nat), i < N → L i = L i ∧ True,
      N = N,
      ∀ (i : Nat), i < N → z0 i = z0 i ∧ True,
      (1 : Nat) ≤ (2 : Nat),
      CodeOk Try.prog (1 : Nat) (Code.loop (loopOf Try.f11 (1 : Nat))) (mkSt (61 : Nat) [((0 : Nat), SV.nv (NV.one (At.own (0 : Nat)))), ((3 : Nat), SV.nv (NV.one (At.own (1 : Nat)))), ((5 : Nat), iA (↑(0 : Nat) : Int))] [Seg.ro (1 : Nat) N (gU L), Seg.row (3 : TypeId) (1 : Nat) N (gI z0)]) (Ex.exit (2 : Nat)) (mkSt (61 : Nat) [((3 : Nat), SV.nv (NV.one (At.own (1 : Nat))))] [Seg.ro (1 : Nat) N (gU L), Seg.row (3 : TypeId) (1 : Nat) N (gI F)]),
      N = N,
      ∀ (i : Nat), i < N → F i = F i ∧ True]) (by kernel_rfl) (.cons (by rfl) (.cons (by rfl) (.cons (by (intro _ _; exact ⟨rfl, trivial⟩)) (.cons (by rfl) (.cons (by trivial) (.cons (by assumption) (.cons (by rfl) (.cons (by rfl) (.cons (by (intro _ _; exact ⟨rfl, trivial⟩)) (.cons (by rfl) (.cons (by (intro _ _; exact ⟨rfl, trivial⟩)) (.cons (by trivial) (.cons (by assumption) (.cons (by rfl) (.cons (by (intro _ _; exact ⟨rfl, trivial⟩)) .nil))))))))))))))) (Nat.le_of_ble_eq_true (by kernel_rfl))

set_option maxHeartbeats 2000000 in
theorem li_y (N : Nat) (L : Nat → Int) (hN : N ≤ 1000) (i k : Nat) (F : Nat → Int) (hi : i < N) (hk : k < i) (n m : Int) (hf : 0 ≤ F k ∧ F k ≤ 1000) (hg : L k ≤ L i) (hq : n < F k + 1) : CodeOk Try.prog 1 (loopOf Try.f15 1) (mkSt 51 [(0, .nv (.one (.own 0))), (3, .nv (.one (.own 1))), (4, iA m), (5, iA i), (6, iA n), (7, iA k)] [.ro 1 N (gU L), .row 3 1 i (gI F)]) .normal (mkSt 51 [(0, .nv (.one (.own 0))), (3, .nv (.one (.own 1))), (4, iA m), (5, iA i), (6, iA (F k + 1)), (7, iA (k + 1 : Nat))] [.ro 1 N (gU L), .row 3 1 i (gI F)]) :=
  code_run G0_ok (orc := ⟨[true, true, true], []⟩) (obl := [decide ((↑k : Int) < (↑i : Int)) = true,
      (0 : Int) ≤ (↑k : Int),
      (↑k : Int) < (↑N : Int),
      Int.toNat (↑k : Int) < N,
      (0 : Int) ≤ (↑i : Int),
      (↑i : Int) < (↑N : Int),
      Int.toNat (↑i : Int) < N,
      decide (L (Int.toNat (↑k : Int)) ≤ L (Int.toNat (↑i : Int))) = true,
      (0 : Int) ≤ (↑k : Int),
      (↑k : Int) < (↑i : Int),
      Int.toNat (↑k : Int) < i,
      decide (IntKind.wrap IntKind.i64 (F (Int.toNat (↑k : Int)) + (1 : Int)) > n) = true,
      (0 : Int) ≤ (↑k : Int),
      (↑k : Int) < (↑i : Int),
      Int.toNat (↑k : Int) < i,
      m = m,
      (↑i : Int) = (↑i : Int),
      IntKind.wrap IntKind.i64 (F (Int.toNat (↑k : Int)) + (1 : Int)) = F k + (1 : Int),
      IntKind.wrap IntKind.i64 ((↑k : Int) + (1 : Int)) = (↑(k + (1 : Nat)) : Int),
      N = N,
      ∀ (i : Nat), i < N → L i = L i ∧ True,
      i = i,
      ∀ (i_1 : Nat), i_1 < i → F i_1 = F i_1 ∧ True]) (by kernel_rfl) (.cons (by exact decide_eq_true (by omega)) (.cons (by omega) (.cons (by omega) (.cons (by omega) (.cons (by omega) (.cons (by omega) (.cons (by assumption) (.cons (by exact decide_eq_true hg) (.cons (by omega) (.cons (by omega) (.cons (by assumption) (.cons (by (rw [Int.toNat_natCast, w64 (b := F k + 1) rfl (by omega)]; exact decide_eq_true hq)) (.cons (by omega) (.cons (by omega) (.cons (by assumption) (.cons (by rfl) (.cons (by rfl) (.cons (by (rw [Int.toNat_natCast]; exact w64 rfl (by omega))) (.cons (by exact w64 (by omega) (by omega)) (.cons (by rfl) (.cons (by (intro _ _; exact ⟨rfl, trivial⟩)) (.cons (by rfl) (.cons (by (intro _ _; exact ⟨rfl, trivial⟩)) .nil))))))))))))))))))))))) (Nat.le_of_ble_eq_true (by kernel_rfl))

set_option maxHeartbeats 2000000 in
theorem li_n (N : Nat) (L : Nat → Int) (hN : N ≤ 1000) (i k : Nat) (F : Nat → Int) (hi : i < N) (hk : k < i) (n m : Int) (hf : 0 ≤ F k ∧ F k ≤ 1000) (hg : L k ≤ L i) (hq : ¬ n < F k + 1) : CodeOk Try.prog 1 (loopOf Try.f15 1) (mkSt 51 [(0, .nv (.one (.own 0))), (3, .nv (.one (.own 1))), (4, iA m), (5, iA i), (6, iA n), (7, iA k)] [.ro 1 N (gU L), .row 3 1 i (gI F)]) .normal (mkSt 51 [(0, .nv (.one (.own 0))), (3, .nv (.one (.own 1))), (4, iA m), (5, iA i), (6, iA n), (7, iA (k + 1 : Nat))] [.ro 1 N (gU L), .row 3 1 i (gI F)]) :=
  code_run G0_ok (orc := ⟨[true, true, false], []⟩) (obl := [decide ((↑k : Int) < (↑i : Int)) = true,
      (0 : Int) ≤ (↑k : Int),
      (↑k : Int) < (↑N : Int),
      Int.toNat (↑k : Int) < N,
      (0 : Int) ≤ (↑i : Int),
      (↑i : Int) < (↑N : Int),
      Int.toNat (↑i : Int) < N,
      decide (L (Int.toNat (↑k : Int)) ≤ L (Int.toNat (↑i : Int))) = true,
      (0 : Int) ≤ (↑k : Int),
      (↑k : Int) < (↑i : Int),
      Int.toNat (↑k : Int) < i,
      decide (IntKind.wrap IntKind.i64 (F (Int.toNat (↑k : Int)) + (1 : Int)) > n) = false,
      m = m,
      (↑i : Int) = (↑i : Int),
      n = n,
      IntKind.wrap IntKind.i64 ((↑k : Int) + (1 : Int)) = (↑(k + (1 : Nat)) : Int),
      N = N,
      ∀ (i : Nat), i < N → L i = L i ∧ True,
      i = i,
      ∀ (i_1 : Nat), i_1 < i → F i_1 = F i_1 ∧ True]) (by kernel_rfl) (.cons (by exact decide_eq_true (by omega)) (.cons (by omega) (.cons (by omega) (.cons (by omega) (.cons (by omega) (.cons (by omega) (.cons (by assumption) (.cons (by exact decide_eq_true hg) (.cons (by omega) (.cons (by omega) (.cons (by assumption) (.cons (by (rw [Int.toNat_natCast, w64 (b := F k + 1) rfl (by omega)]; exact decide_eq_false hq)) (.cons (by rfl) (.cons (by rfl) (.cons (by rfl) (.cons (by exact w64 (by omega) (by omega)) (.cons (by rfl) (.cons (by (intro _ _; exact ⟨rfl, trivial⟩)) (.cons (by rfl) (.cons (by (intro _ _; exact ⟨rfl, trivial⟩)) .nil)))))))))))))))))))) (Nat.le_of_ble_eq_true (by kernel_rfl))

set_option maxHeartbeats 2000000 in
theorem li_m (N : Nat) (L : Nat → Int) (hN : N ≤ 1000) (i k : Nat) (F : Nat → Int) (hi : i < N) (hk : k < i) (n m : Int) (hf : 0 ≤ F k ∧ F k ≤ 1000) (hg : ¬ L k ≤ L i) : CodeOk Try.prog 1 (loopOf Try.f15 1) (mkSt 51 [(0, .nv (.one (.own 0))), (3, .nv (.one (.own 1))), (4, iA m), (5, iA i), (6, iA n), (7, iA k)] [.ro 1 N (gU L), .row 3 1 i (gI F)]) .normal (mkSt 51 [(0, .nv (.one (.own 0))), (3, .nv (.one (.own 1))), (4, iA m), (5, iA i), (6, iA n), (7, iA (k + 1 : Nat))] [.ro 1 N (gU L), .row 3 1 i (gI F)]) :=
  code_run G0_ok (orc := ⟨[true, false, false], []⟩) (obl := [decide ((↑k : Int) < (↑i : Int)) = true,
      (0 : Int) ≤ (↑k : Int),
      (↑k : Int) < (↑N : Int),
      Int.toNat (↑k : Int) < N,
      (0 : Int) ≤ (↑i : Int),
      (↑i : Int) < (↑N : Int),
      Int.toNat (↑i : Int) < N,
      decide (L (Int.toNat (↑k : Int)) ≤ L (Int.toNat (↑i : Int))) = false,
      false = false,
      m = m,
      (↑i : Int) = (↑i : Int),
      n = n,
      IntKind.wrap IntKind.i64 ((↑k : Int) + (1 : Int)) = (↑(k + (1 : Nat)) : Int),
      N = N,
      ∀ (i : Nat), i < N → L i = L i ∧ True,
      i = i,
      ∀ (i_1 : Nat), i_1 < i → F i_1 = F i_1 ∧ True]) (by kernel_rfl) (.cons (by exact decide_eq_true (by omega)) (.cons (by omega) (.cons (by omega) (.cons (by omega) (.cons (by omega) (.cons (by omega) (.cons (by assumption) (.cons (by exact decide_eq_false hg) (.cons (by rfl) (.cons (by rfl) (.cons (by rfl) (.cons (by rfl) (.cons (by exact w64 (by omega) (by omega)) (.cons (by rfl) (.cons (by (intro _ _; exact ⟨rfl, trivial⟩)) (.cons (by rfl) (.cons (by (intro _ _; exact ⟨rfl, trivial⟩)) .nil))))))))))))))))) (Nat.le_of_ble_eq_true (by kernel_rfl))

set_option maxHeartbeats 2000000 in
theorem li_e (N : Nat) (L : Nat → Int) (hN : N ≤ 1000) (i : Nat) (F : Nat → Int) (n m : Int) : CodeOk Try.prog 1 (loopOf Try.f15 1) (mkSt 51 [(0, .nv (.one (.own 0))), (3, .nv (.one (.own 1))), (4, iA m), (5, iA i), (6, iA n), (7, iA i)] [.ro 1 N (gU L), .row 3 1 i (gI F)]) (.exit 2) (mkSt 51 [(0, .nv (.one (.own 0))), (3, .nv (.one (.own 1))), (4, iA m), (5, iA i), (6, iA n)] [.ro 1 N (gU L), .row 3 1 i (gI F)]) :=
  code_run G0_ok (orc := ⟨[false], []⟩) (obl := [decide ((↑i : Int) < (↑i : Int)) = false,
      m = m,
      (↑i : Int) = (↑i : Int),
      n = n,
      N = N,
      ∀ (i : Nat), i < N → L i = L i ∧ True,
      i = i,
      ∀ (i_1 : Nat), i_1 < i → F i_1 = F i_1 ∧ True]) (by kernel_rfl) (.cons (by exact decide_eq_false (by omega)) (.cons (by rfl) (.cons (by rfl) (.cons (by rfl) (.cons (by rfl) (.cons (by (intro _ _; exact ⟨rfl, trivial⟩)) (.cons (by rfl) (.cons (by (intro _ _; exact ⟨rfl, trivial⟩)) .nil)))))))) (Nat.le_of_ble_eq_true (by kernel_rfl))

set_option maxHeartbeats 2000000 in
theorem lr_y (N : Nat) (L : Nat → Int) (hN : N ≤ 1000) (i : Nat) (F : Nat → Int) (hi : i < N) (n m : Int) (hq : m < n) (l0 : CodeOk Try.prog 1 (.loop (loopOf Try.f15 1)) (mkSt 51 [(0, .nv (.one (.own 0))), (3, .nv (.one (.own 1))), (4, iA m), (5, iA i), (6, iA 1), (7, iA (0 : Nat))] [.ro 1 N (gU L), .row 3 1 i (gI F)]) (.exit 2) (mkSt 51 [(0, .nv (.one (.own 0))), (3, .nv (.one (.own 1))), (4, iA m), (5, iA i), (6, iA n)] [.ro 1 N (gU L), .row 3 1 i (gI F)])) : CodeOk Try.prog 1 (loopOf Try.f15 0) (mkSt 51 [(0, .nv (.one (.own 0))), (3, .nv (.one (.own 1))), (4, iA m), (5, iA i)] [.ro 1 N (gU L), .row 3 1 i (gI F)]) .normal (mkSt 51 [(0, .nv (.one (.own 0))), (3, .nv (.one (.own 1))), (4, iA n), (5, iA (i + 1 : Nat))] [.ro 1 N (gU L), .row 3 1 (i + 1) (gI (putF F i n))]) :=
  code_run G0_ok (orc := ⟨[true, true], [⟨mkSt 51 [(0, .nv (.one (.own 0))), (3, .nv (.one (.own 1))), (4, iA m), (5, iA i), (6, iA 1), (7, iA (0 : Nat))] [.ro 1 N (gU L), .row 3 1 i (gI F)], .exit 2, mkSt 51 [(0, .nv (.one (.own 0))), (3, .nv (.one (.own 1))), (4, iA m), (5, iA i), (6, iA n)] [.ro 1 N (gU L), .row 3 1 i (gI F)]⟩]⟩) (obl := [decide ((↑i : Int) < (↑N : Int)) = true,
      m = m,
      (↑i : Int) = (↑i : Int),
      (1 : Int) = (1 : Int),
      (0 : Int) = (↑(0 : Nat) : Int),
      N = N,
      ∀ (i : Nat), i < N → L i = L i ∧ True,
      i = i,
      ∀ (i_1 : Nat), i_1 < i → F i_1 = F i_1 ∧ True,
      (1 : Nat) ≤ (2 : Nat),
      CodeOk Try.prog (1 : Nat) (Code.loop (loopOf Try.f15 (1 : Nat))) (mkSt (51 : Nat) [((0 : Nat), SV.nv (NV.one (At.own (0 : Nat)))), ((3 : Nat), SV.nv (NV.one (At.own (1 : Nat)))), ((4 : Nat), iA m), ((5 : Nat), iA (↑i : Int)), ((6 : Nat), iA (1 : Int)), ((7 : Nat), iA (↑(0 : Nat) : Int))] [Seg.ro (1 : Nat) N (gU L), Seg.row (3 : TypeId) (1 : Nat) i (gI F)]) (Ex.exit (2 : Nat)) (mkSt (51 : Nat) [((0 : Nat), SV.nv (NV.one (At.own (0 : Nat)))), ((3 : Nat), SV.nv (NV.one (At.own (1 : Nat)))), ((4 : Nat), iA m), ((5 : Nat), iA (↑i : Int)), ((6 : Nat), iA n)] [Seg.ro (1 : Nat) N (gU L), Seg.row (3 : TypeId) (1 : Nat) i (gI F)]),
      i + (1 : Nat) ≤ (4611686018427387904 : Nat),
      (i + (1 : Nat)) * (8 : Nat) ≤ (140737488355328 : Nat),
      decide (n > m) = true,
      n = n,
      IntKind.wrap IntKind.i64 ((↑i : Int) + (1 : Int)) = (↑(i + (1 : Nat)) : Int),
      N = N,
      ∀ (i : Nat), i < N → L i = L i ∧ True,
      i + (1 : Nat) = i + (1 : Nat),
      ∀ (i_1 : Nat), i_1 < i + (1 : Nat) → AllT (leAts ([(nat_lit 0, Bd.same (nat_lit 0))] ++ ([((0 : Nat), Bd.same (0 : Nat))] ++ ([((1 : Nat), Bd.same (3 : Nat))] ++ ([] ++ ([] ++ [])))) ++ ([] ++ ([] ++ ([] ++ [])) ++ ([] ++ []))) (2 : Nat) (if i_1 = i then [At.val (Value.int IntKind.i64 n)] else gI F i_1) (gI (putF F i n) i_1))]) (by kernel_rfl) (.cons (by exact decide_eq_true (by omega)) (.cons (by rfl) (.cons (by rfl) (.cons (by rfl) (.cons (by rfl) (.cons (by rfl) (.cons (by (intro _ _; exact ⟨rfl, trivial⟩)) (.cons (by rfl) (.cons (by (intro _ _; exact ⟨rfl, trivial⟩)) (.cons (by trivial) (.cons (by assumption) (.cons (by omega) (.cons (by omega) (.cons (by exact decide_eq_true hq) (.cons (by rfl) (.cons (by exact w64 (by omega) (by omega)) (.cons (by rfl) (.cons (by (intro _ _; exact ⟨rfl, trivial⟩)) (.cons (by rfl) (.cons (by (refine leG_eq (fun j hj => ?_) (fun _ _ => rfl); simp only [Int.toNat_natCast, putF, gI]; (repeat' split) <;> first | rfl | omega | (subst_vars; rfl) | (simp_all; done) | (exfalso; omega))) .nil)))))))))))))))))))) (Nat.le_of_ble_eq_true (by kernel_rfl))

set_option maxHeartbeats 2000000 in
theorem lr_n (N : Nat) (L : Nat → Int) (hN : N ≤ 1000) (i : Nat) (F : Nat → Int) (hi : i < N) (n m : Int) (hq : ¬ m < n) (l0 : CodeOk Try.prog 1 (.loop (loopOf Try.f15 1)) (mkSt 51 [(0, .nv (.one (.own 0))), (3, .nv (.one (.own 1))), (4, iA m), (5, iA i), (6, iA 1), (7, iA (0 : Nat))] [.ro 1 N (gU L), .row 3 1 i (gI F)]) (.exit 2) (mkSt 51 [(0, .nv (.one (.own 0))), (3, .nv (.one (.own 1))), (4, iA m), (5, iA i), (6, iA n)] [.ro 1 N (gU L), .row 3 1 i (gI F)])) : CodeOk Try.prog 1 (loopOf Try.f15 0) (mkSt 51 [(0, .nv (.one (.own 0))), (3, .nv (.one (.own 1))), (4, iA m), (5, iA i)] [.ro 1 N (gU L), .row 3 1 i (gI F)]) .normal (mkSt 51 [(0, .nv (.one (.own 0))), (3, .nv (.one (.own 1))), (4, iA m), (5, iA (i + 1 : Nat))] [.ro 1 N (gU L), .row 3 1 (i + 1) (gI (putF F i n))]) :=
  code_run G0_ok (orc := ⟨[true, false], [⟨mkSt 51 [(0, .nv (.one (.own 0))), (3, .nv (.one (.own 1))), (4, iA m), (5, iA i), (6, iA 1), (7, iA (0 : Nat))] [.ro 1 N (gU L), .row 3 1 i (gI F)], .exit 2, mkSt 51 [(0, .nv (.one (.own 0))), (3, .nv (.one (.own 1))), (4, iA m), (5, iA i), (6, iA n)] [.ro 1 N (gU L), .row 3 1 i (gI F)]⟩]⟩) (obl := [decide ((↑i : Int) < (↑N : Int)) = true,
      m = m,
      (↑i : Int) = (↑i : Int),
      (1 : Int) = (1 : Int),
      (0 : Int) = (↑(0 : Nat) : Int),
      N = N,
      ∀ (i : Nat), i < N → L i = L i ∧ True,
      i = i,
      ∀ (i_1 : Nat), i_1 < i → F i_1 = F i_1 ∧ True,
      (1 : Nat) ≤ (2 : Nat),
      CodeOk Try.prog (1 : Nat) (Code.loop (loopOf Try.f15 (1 : Nat))) (mkSt (51 : Nat) [((0 : Nat), SV.nv (NV.one (At.own (0 : Nat)))), ((3 : Nat), SV.nv (NV.one (At.own (1 : Nat)))), ((4 : Nat), iA m), ((5 : Nat), iA (↑i : Int)), ((6 : Nat), iA (1 : Int)), ((7 : Nat), iA (↑(0 : Nat) : Int))] [Seg.ro (1 : Nat) N (gU L), Seg.row (3 : TypeId) (1 : Nat) i (gI F)]) (Ex.exit (2 : Nat)) (mkSt (51 : Nat) [((0 : Nat), SV.nv (NV.one (At.own (0 : Nat)))), ((3 : Nat), SV.nv (NV.one (At.own (1 : Nat)))), ((4 : Nat), iA m), ((5 : Nat), iA (↑i : Int)), ((6 : Nat), iA n)] [Seg.ro (1 : Nat) N (gU L), Seg.row (3 : TypeId) (1 : Nat) i (gI F)]),
      i + (1 : Nat) ≤ (4611686018427387904 : Nat),
      (i + (1 : Nat)) * (8 : Nat) ≤ (140737488355328 : Nat),
      decide (n > m) = false,
      m = m,
      IntKind.wrap IntKind.i64 ((↑i : Int) + (1 : Int)) = (↑(i + (1 : Nat)) : Int),
      N = N,
      ∀ (i : Nat), i < N → L i = L i ∧ True,
      i + (1 : Nat) = i + (1 : Nat),
      ∀ (i_1 : Nat), i_1 < i + (1 : Nat) → AllT (leAts ([(nat_lit 0, Bd.same (nat_lit 0))] ++ ([((0 : Nat), Bd.same (0 : Nat))] ++ ([((1 : Nat), Bd.same (3 : Nat))] ++ ([] ++ ([] ++ [])))) ++ ([] ++ ([] ++ ([] ++ [])) ++ ([] ++ []))) (2 : Nat) (if i_1 = i then [At.val (Value.int IntKind.i64 n)] else gI F i_1) (gI (putF F i n) i_1))]) (by kernel_rfl) (.cons (by exact decide_eq_true (by omega)) (.cons (by rfl) (.cons (by rfl) (.cons (by rfl) (.cons (by rfl) (.cons (by rfl) (.cons (by (intro _ _; exact ⟨rfl, trivial⟩)) (.cons (by rfl) (.cons (by (intro _ _; exact ⟨rfl, trivial⟩)) (.cons (by trivial) (.cons (by assumption) (.cons (by omega) (.cons (by omega) (.cons (by exact decide_eq_false hq) (.cons (by rfl) (.cons (by exact w64 (by omega) (by omega)) (.cons (by rfl) (.cons (by (intro _ _; exact ⟨rfl, trivial⟩)) (.cons (by rfl) (.cons (by (refine leG_eq (fun j hj => ?_) (fun _ _ => rfl); simp only [Int.toNat_natCast, putF, gI]; (repeat' split) <;> first | rfl | omega | (subst_vars; rfl) | (simp_all; done) | (exfalso; omega))) .nil)))))))))))))))))))) (Nat.le_of_ble_eq_true (by kernel_rfl))

set_option maxHeartbeats 2000000 in
theorem lr_e (N : Nat) (L : Nat → Int) (hN : N ≤ 1000) (F : Nat → Int) (m : Int) : CodeOk Try.prog 1 (loopOf Try.f15 0) (mkSt 51 [(0, .nv (.one (.own 0))), (3, .nv (.one (.own 1))), (4, iA m), (5, iA N)] [.ro 1 N (gU L), .row 3 1 N (gI F)]) (.exit 0) (mkSt 51 [(4, iA m)] [.ro 1 N (gU L)]) :=
  code_run G0_ok (orc := ⟨[false], []⟩) (obl := [decide ((↑N : Int) < (↑N : Int)) = false,
      m = m,
      N = N,
      ∀ (i : Nat), i < N → L i = L i ∧ True]) (by kernel_rfl) (.cons (by exact decide_eq_false (by omega)) (.cons (by rfl) (.cons (by rfl) (.cons (by (intro _ _; exact ⟨rfl, trivial⟩)) .nil)))) (Nat.le_of_ble_eq_true (by kernel_rfl))

set_option maxHeartbeats 2000000 in
theorem lr_f (N : Nat) (L : Nat → Int) (hN : N ≤ 1000) (m : Int) (l0 : CodeOk Try.prog 1 (.loop (loopOf Try.f15 0)) (mkSt 51 [(0, .nv (.one (.own 0))), (3, .nv (.one (.own 1))), (4, iA 0), (5, iA (0 : Nat))] [.ro 1 N (gU L), .row 3 1 0 (gI z0)]) (.exit 0) (mkSt 51 [(4, iA m)] [.ro 1 N (gU L)])) : FnOk Try.prog 15 ([.nv (.one (.own 0))]) ([.ro 1 N (gU L)]) (iA m) ([.gone]) :=
  fn_run G0_ok Try.func15 (orc := ⟨[], [⟨mkSt 51 [(0, .nv (.one (.own 0))), (3, .nv (.one (.own 1))), (4, iA 0), (5, iA (0 : Nat))] [.ro 1 N (gU L), .row 3 1 0 (gI z0)], .exit 0, mkSt 51 [(4, iA m)] [.ro 1 N (gU L)]⟩]⟩) (obl := [(0 : Int) = (0 : Int),
      (0 : Int) = (↑(0 : Nat) : Int),
      N = N,
      ∀ (i : Nat), i < N → L i = L i ∧ True,
      (0 : Nat) = (0 : Nat),
      (1 : Nat) ≤ (2 : Nat),
      CodeOk Try.prog (1 : Nat) (Code.loop (loopOf Try.f15 (0 : Nat))) (mkSt (51 : Nat) [((0 : Nat), SV.nv (NV.one (At.own (0 : Nat)))), ((3 : Nat), SV.nv (NV.one (At.own (1 : Nat)))), ((4 : Nat), iA (0 : Int)), ((5 : Nat), iA (↑(0 : Nat) : Int))] [Seg.ro (1 : Nat) N (gU L), Seg.row (3 : TypeId) (1 : Nat) (0 : Nat) (gI z0)]) (Ex.exit (0 : Nat)) (mkSt (51 : Nat) [((4 : Nat), iA m)] [Seg.ro (1 : Nat) N (gU L)]),
      m = m]) (by kernel_rfl) (.cons (by rfl) (.cons (by rfl) (.cons (by rfl) (.cons (by (intro _ _; exact ⟨rfl, trivial⟩)) (.cons (by rfl) (.cons (by trivial) (.cons (by assumption) (.cons (by rfl) .nil)))))))) (Nat.le_of_ble_eq_true (by kernel_rfl))

set_option maxHeartbeats 2000000 in
theorem sm_r (N : Nat) (F G : Nat → Int) (hN : N ≤ 1000000) (i : Nat) (hi : i < N) (he : F i = G i) : CodeOk Try.prog 2 (loopOf Try.f9 0) (mkSt 26 [(0, .nv (.one (.own 0))), (1, .nv (.one (.own 1))), (5, iA i)] [.ro 1 N (gI F), .ro 1 N (gI G)]) .normal (mkSt 26 [(0, .nv (.one (.own 0))), (1, .nv (.one (.own 1))), (5, iA (i + 1 : Nat))] [.ro 1 N (gI F), .ro 1 N (gI G)]) :=
  code_run G0_ok (orc := ⟨[true, false], []⟩) (obl := [decide ((↑i : Int) < (↑N : Int)) = true,
      (0 : Int) ≤ (↑i : Int),
      (↑i : Int) < (↑N : Int),
      Int.toNat (↑i : Int) < N,
      (0 : Int) ≤ (↑i : Int),
      (↑i : Int) < (↑N : Int),
      Int.toNat (↑i : Int) < N,
      (F (Int.toNat (↑i : Int)) != G (Int.toNat (↑i : Int))) = false,
      IntKind.wrap IntKind.i64 ((↑i : Int) + (1 : Int)) = (↑(i + (1 : Nat)) : Int),
      N = N,
      ∀ (i : Nat), i < N → F i = F i ∧ True,
      N = N,
      ∀ (i : Nat), i < N → G i = G i ∧ True]) (by kernel_rfl) (.cons (by exact decide_eq_true (by omega)) (.cons (by omega) (.cons (by omega) (.cons (by assumption) (.cons (by omega) (.cons (by omega) (.cons (by assumption) (.cons (by exact bne_eq_false_iff_eq.2 he) (.cons (by exact w64 (by omega) (by omega)) (.cons (by rfl) (.cons (by (intro _ _; exact ⟨rfl, trivial⟩)) (.cons (by rfl) (.cons (by (intro _ _; exact ⟨rfl, trivial⟩)) .nil))))))))))))) (Nat.le_of_ble_eq_true (by kernel_rfl))

set_option maxHeartbeats 2000000 in
theorem sm_n (N : Nat) (F G : Nat → Int) (hN : N ≤ 1000000) (i : Nat) (hi : i < N) (he : F i ≠ G i) : CodeOk Try.prog 2 (loopOf Try.f9 0) (mkSt 26 [(0, .nv (.one (.own 0))), (1, .nv (.one (.own 1))), (5, iA i)] [.ro 1 N (gI F), .ro 1 N (gI G)]) .ret (mkSt 26 [(4, bA false)] [.ro 1 N (gI F), .ro 1 N (gI G)]) :=
  code_run G0_ok (orc := ⟨[true, true], []⟩) (obl := [decide ((↑i : Int) < (↑N : Int)) = true,
      (0 : Int) ≤ (↑i : Int),
      (↑i : Int) < (↑N : Int),
      Int.toNat (↑i : Int) < N,
      (0 : Int) ≤ (↑i : Int),
      (↑i : Int) < (↑N : Int),
      Int.toNat (↑i : Int) < N,
      (F (Int.toNat (↑i : Int)) != G (Int.toNat (↑i : Int))) = true,
      false = false,
      N = N,
      ∀ (i : Nat), i < N → F i = F i ∧ True,
      N = N,
      ∀ (i : Nat), i < N → G i = G i ∧ True]) (by kernel_rfl) (.cons (by exact decide_eq_true (by omega)) (.cons (by omega) (.cons (by omega) (.cons (by assumption) (.cons (by omega) (.cons (by omega) (.cons (by assumption) (.cons (by exact bne_iff_ne.2 he) (.cons (by rfl) (.cons (by rfl) (.cons (by (intro _ _; exact ⟨rfl, trivial⟩)) (.cons (by rfl) (.cons (by (intro _ _; exact ⟨rfl, trivial⟩)) .nil))))))))))))) (Nat.le_of_ble_eq_true (by kernel_rfl))

set_option maxHeartbeats 2000000 in
theorem sm_e (N : Nat) (F G : Nat → Int) (hN : N ≤ 1000000) : CodeOk Try.prog 2 (loopOf Try.f9 0) (mkSt 26 [(0, .nv (.one (.own 0))), (1, .nv (.one (.own 1))), (5, iA N)] [.ro 1 N (gI F), .ro 1 N (gI G)]) (.exit 0) (mkSt 26 [] [.ro 1 N (gI F), .ro 1 N (gI G)]) :=
  code_run G0_ok (orc := ⟨[false], []⟩) (obl := [decide ((↑N : Int) < (↑N : Int)) = false,
      N = N,
      ∀ (i : Nat), i < N → F i = F i ∧ True,
      N = N,
      ∀ (i : Nat), i < N → G i = G i ∧ True]) (by kernel_rfl) (.cons (by exact decide_eq_false (by omega)) (.cons (by rfl) (.cons (by (intro _ _; exact ⟨rfl, trivial⟩)) (.cons (by rfl) (.cons (by (intro _ _; exact ⟨rfl, trivial⟩)) .nil))))) (Nat.le_of_ble_eq_true (by kernel_rfl))

set_option maxHeartbeats 2000000 in
theorem sm_x (N M : Nat) (F G : Nat → Int) (h : N ≠ M) : FnOk Try.prog 9 ([.nv (.one (.own 0)), .nv (.one (.own 1))]) ([.ro 1 N (gI F), .ro 1 M (gI G)]) (bA false) ([.gone, .gone]) :=
  fn_run G0_ok Try.func9 (orc := ⟨[true], []⟩) (obl := [((↑N : Int) != (↑M : Int)) = true,
      false = false]) (by kernel_rfl) (.cons (by exact bne_iff_ne.2 (by omega)) (.cons (by rfl) .nil)) (Nat.le_of_ble_eq_true (by kernel_rfl))

set_option maxHeartbeats 2000000 in
theorem sm_t (N : Nat) (F G : Nat → Int) (hN : N ≤ 1000000) (l0 : CodeOk Try.prog 2 (.loop (loopOf Try.f9 0)) (mkSt 26 [(0, .nv (.one (.own 0))), (1, .nv (.one (.own 1))), (5, iA (0 : Nat))] [.ro 1 N (gI F), .ro 1 N (gI G)]) (.exit 0) (mkSt 26 [] [.ro 1 N (gI F), .ro 1 N (gI G)])) : FnOk Try.prog 9 ([.nv (.one (.own 0)), .nv (.one (.own 1))]) ([.ro 1 N (gI F), .ro 1 N (gI G)]) (bA true) ([.gone, .gone]) :=
  fn_run G0_ok Try.func9 (orc := ⟨[false], [⟨mkSt 26 [(0, .nv (.one (.own 0))), (1, .nv (.one (.own 1))), (5, iA (0 : Nat))] [.ro 1 N (gI F), .ro 1 N (gI G)], .exit 0, mkSt 26 [] [.ro 1 N (gI F), .ro 1 N (gI G)]⟩]⟩) (obl := [((↑N : Int) != (↑N : Int)) = false,
      (0 : Int) = (↑(0 : Nat) : Int),
      N = N,
      ∀ (i : Nat), i < N → F i = F i ∧ True,
      N = N,
      ∀ (i : Nat), i < N → G i = G i ∧ True,
      (2 : Nat) ≤ (2 : Nat),
      CodeOk Try.prog (2 : Nat) (Code.loop (loopOf Try.f9 (0 : Nat))) (mkSt (26 : Nat) [((0 : Nat), SV.nv (NV.one (At.own (0 : Nat)))), ((1 : Nat), SV.nv (NV.one (At.own (1 : Nat)))), ((5 : Nat), iA (↑(0 : Nat) : Int))] [Seg.ro (1 : Nat) N (gI F), Seg.ro (1 : Nat) N (gI G)]) (Ex.exit (0 : Nat)) (mkSt (26 : Nat) [] [Seg.ro (1 : Nat) N (gI F), Seg.ro (1 : Nat) N (gI G)]),
      true = true]) (by kernel_rfl) (.cons (by exact bne_eq_false_iff_eq.2 (by omega)) (.cons (by rfl) (.cons (by rfl) (.cons (by (intro _ _; exact ⟨rfl, trivial⟩)) (.cons (by rfl) (.cons (by (intro _ _; exact ⟨rfl, trivial⟩)) (.cons (by trivial) (.cons (by assumption) (.cons (by rfl) .nil))))))))) (Nat.le_of_ble_eq_true (by kernel_rfl))

set_option maxHeartbeats 2000000 in
theorem sm_f (N : Nat) (F G : Nat → Int) (hN : N ≤ 1000000) (l0 : CodeOk Try.prog 2 (.loop (loopOf Try.f9 0)) (mkSt 26 [(0, .nv (.one (.own 0))), (1, .nv (.one (.own 1))), (5, iA (0 : Nat))] [.ro 1 N (gI F), .ro 1 N (gI G)]) .ret (mkSt 26 [(4, bA false)] [.ro 1 N (gI F), .ro 1 N (gI G)])) : FnOk Try.prog 9 ([.nv (.one (.own 0)), .nv (.one (.own 1))]) ([.ro 1 N (gI F), .ro 1 N (gI G)]) (bA false) ([.gone, .gone]) :=
  fn_run G0_ok Try.func9 (orc := ⟨[false], [⟨mkSt 26 [(0, .nv (.one (.own 0))), (1, .nv (.one (.own 1))), (5, iA (0 : Nat))] [.ro 1 N (gI F), .ro 1 N (gI G)], .ret, mkSt 26 [(4, bA false)] [.ro 1 N (gI F), .ro 1 N (gI G)]⟩]⟩) (obl := [((↑N : Int) != (↑N : Int)) = false,
      (0 : Int) = (↑(0 : Nat) : Int),
      N = N,
      ∀ (i : Nat), i < N → F i = F i ∧ True,
      N = N,
      ∀ (i : Nat), i < N → G i = G i ∧ True,
      (2 : Nat) ≤ (2 : Nat),
      CodeOk Try.prog (2 : Nat) (Code.loop (loopOf Try.f9 (0 : Nat))) (mkSt (26 : Nat) [((0 : Nat), SV.nv (NV.one (At.own (0 : Nat)))), ((1 : Nat), SV.nv (NV.one (At.own (1 : Nat)))), ((5 : Nat), iA (↑(0 : Nat) : Int))] [Seg.ro (1 : Nat) N (gI F), Seg.ro (1 : Nat) N (gI G)]) Ex.ret (mkSt (26 : Nat) [((4 : Nat), bA false)] [Seg.ro (1 : Nat) N (gI F), Seg.ro (1 : Nat) N (gI G)]),
      false = false]) (by kernel_rfl) (.cons (by exact bne_eq_false_iff_eq.2 (by omega)) (.cons (by rfl) (.cons (by rfl) (.cons (by (intro _ _; exact ⟨rfl, trivial⟩)) (.cons (by rfl) (.cons (by (intro _ _; exact ⟨rfl, trivial⟩)) (.cons (by trivial) (.cons (by assumption) (.cons (by rfl) .nil))))))))) (Nat.le_of_ble_eq_true (by kernel_rfl))
end Go.Proofs.Ytffkakkijifoaaa
