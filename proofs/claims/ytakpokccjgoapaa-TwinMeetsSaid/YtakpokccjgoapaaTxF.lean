/- Runs of Go code, as printed by a program: no condition beyond those that each states. -/
import Derived.Test.YtakpokccjgoapaaTxE
import Derived.Test.YtakpokccjgoapaaChecked
import Derived.KernelRfl
namespace Go.Proofs.Ytakpokccjgoapaa
set_option linter.unusedVariables false
set_option linter.unusedSimpArgs false
set_option maxRecDepth 100000
open Go.RowKit E
set_option maxHeartbeats 2000000 in
theorem rpush_t (n p : Nat) (L : It) (r x : Int) (l : CodeOk Try.prog 1 (.loop (loopOf Try.f26 0)) (mkSt 49 [(0, .nv (.one (.own 0))), (1, uA r), (2, iA x), (7, .nv (.one (.own 1))), (8, bA false), (9, iA (0 : Nat))] [.ro 2 n (gIt L), .row 46 2 0 (gIt (L.ins 0 r x))]) (.exit 0) (mkSt 49 [(1, uA r), (2, iA x), (7, .nv (.one (.own 1))), (8, bA true)] [.ro 2 n (gIt L), .row 46 2 (n + 1) (gIt (L.ins p r x))])) : FnOk Try.prog 26 ([.nv (.one (.own 0)), uA r, iA x]) ([.ro 2 n (gIt L)]) (.nv (.one (.own 1))) ([.ro 2 n (gIt L), .row 46 2 (n + 1) (gIt (L.ins p r x))]) :=
  fn_run G0_ok Try.func26 (orc := ⟨[false], [⟨mkSt 49 [(0, .nv (.one (.own 0))), (1, uA r), (2, iA x), (7, .nv (.one (.own 1))), (8, bA false), (9, iA (0 : Nat))] [.ro 2 n (gIt L), .row 46 2 0 (gIt (L.ins 0 r x))], .exit 0, mkSt 49 [(1, uA r), (2, iA x), (7, .nv (.one (.own 1))), (8, bA true)] [.ro 2 n (gIt L), .row 46 2 (n + 1) (gIt (L.ins p r x))]⟩]⟩) (obl := [r = r,
      x = x,
      false = false,
      (0 : Int) = (↑(0 : Nat) : Int),
      n = n,
      ∀ (i : Nat), i < n → It.r L i = It.r L i ∧ It.x L i = It.x L i ∧ True,
      (0 : Nat) = (0 : Nat),
      (1 : Nat) ≤ (2 : Nat),
      CodeOk Try.prog (1 : Nat) (Code.loop (loopOf Try.f26 (0 : Nat))) (mkSt (49 : Nat) [((0 : Nat), SV.nv (NV.one (At.own (0 : Nat)))), ((1 : Nat), uA r), ((2 : Nat), iA x), ((7 : Nat), SV.nv (NV.one (At.own (1 : Nat)))), ((8 : Nat), bA false), ((9 : Nat), iA (↑(0 : Nat) : Int))] [Seg.ro (2 : Nat) n (gIt L), Seg.row (46 : TypeId) (2 : Nat) (0 : Nat) (gIt (It.ins L (0 : Nat) r x))]) (Ex.exit (0 : Nat)) (mkSt (49 : Nat) [((1 : Nat), uA r), ((2 : Nat), iA x), ((7 : Nat), SV.nv (NV.one (At.own (1 : Nat)))), ((8 : Nat), bA true)] [Seg.ro (2 : Nat) n (gIt L), Seg.row (46 : TypeId) (2 : Nat) (n + (1 : Nat)) (gIt (It.ins L p r x))]),
      (!true) = false,
      n = n,
      ∀ (i : Nat), i < n → It.r L i = It.r L i ∧ It.x L i = It.x L i ∧ True,
      n + (1 : Nat) = n + (1 : Nat),
      ∀ (i : Nat), i < n + (1 : Nat) → It.r (It.ins L p r x) i = It.r (It.ins L p r x) i ∧ It.x (It.ins L p r x) i = It.x (It.ins L p r x) i ∧ True]) (by kernel_rfl) (.cons (by rfl) (.cons (by rfl) (.cons (by rfl) (.cons (by rfl) (.cons (by rfl) (.cons (by (simp; done)) (.cons (by rfl) (.cons (by trivial) (.cons (by assumption) (.cons (by rfl) (.cons (by rfl) (.cons (by (simp; done)) (.cons (by rfl) (.cons (by (simp; done)) .nil)))))))))))))) (Nat.le_of_ble_eq_true (by kernel_rfl))

set_option maxHeartbeats 2000000 in
theorem rpush_f (n : Nat) (L : It) (r x : Int) (hn : n ≤ 100000) (l : CodeOk Try.prog 1 (.loop (loopOf Try.f26 0)) (mkSt 49 [(0, .nv (.one (.own 0))), (1, uA r), (2, iA x), (7, .nv (.one (.own 1))), (8, bA false), (9, iA (0 : Nat))] [.ro 2 n (gIt L), .row 46 2 0 (gIt (L.ins 0 r x))]) (.exit 0) (mkSt 49 [(1, uA r), (2, iA x), (7, .nv (.one (.own 1))), (8, bA false)] [.ro 2 n (gIt L), .row 46 2 n (gIt (L.ins n r x))])) : FnOk Try.prog 26 ([.nv (.one (.own 0)), uA r, iA x]) ([.ro 2 n (gIt L)]) (.nv (.one (.own 1))) ([.ro 2 n (gIt L), .row 46 2 (n + 1) (gIt (L.ins n r x))]) :=
  fn_run G0_ok Try.func26 (orc := ⟨[true], [⟨mkSt 49 [(0, .nv (.one (.own 0))), (1, uA r), (2, iA x), (7, .nv (.one (.own 1))), (8, bA false), (9, iA (0 : Nat))] [.ro 2 n (gIt L), .row 46 2 0 (gIt (L.ins 0 r x))], .exit 0, mkSt 49 [(1, uA r), (2, iA x), (7, .nv (.one (.own 1))), (8, bA false)] [.ro 2 n (gIt L), .row 46 2 n (gIt (L.ins n r x))]⟩]⟩) (obl := [r = r,
      x = x,
      false = false,
      (0 : Int) = (↑(0 : Nat) : Int),
      n = n,
      ∀ (i : Nat), i < n → It.r L i = It.r L i ∧ It.x L i = It.x L i ∧ True,
      (0 : Nat) = (0 : Nat),
      (1 : Nat) ≤ (2 : Nat),
      CodeOk Try.prog (1 : Nat) (Code.loop (loopOf Try.f26 (0 : Nat))) (mkSt (49 : Nat) [((0 : Nat), SV.nv (NV.one (At.own (0 : Nat)))), ((1 : Nat), uA r), ((2 : Nat), iA x), ((7 : Nat), SV.nv (NV.one (At.own (1 : Nat)))), ((8 : Nat), bA false), ((9 : Nat), iA (↑(0 : Nat) : Int))] [Seg.ro (2 : Nat) n (gIt L), Seg.row (46 : TypeId) (2 : Nat) (0 : Nat) (gIt (It.ins L (0 : Nat) r x))]) (Ex.exit (0 : Nat)) (mkSt (49 : Nat) [((1 : Nat), uA r), ((2 : Nat), iA x), ((7 : Nat), SV.nv (NV.one (At.own (1 : Nat)))), ((8 : Nat), bA false)] [Seg.ro (2 : Nat) n (gIt L), Seg.row (46 : TypeId) (2 : Nat) n (gIt (It.ins L n r x))]),
      (!false) = true,
      n + (1 : Nat) ≤ (4611686018427387904 : Nat),
      (n + (1 : Nat)) * (16 : Nat) ≤ (140737488355328 : Nat),
      n = n,
      ∀ (i : Nat), i < n → It.r L i = It.r L i ∧ It.x L i = It.x L i ∧ True,
      n + (1 : Nat) = n + (1 : Nat),
      ∀ (i : Nat), i < n + (1 : Nat) → AllT (leAts ([(nat_lit 0, Bd.same (nat_lit 0))] ++ ([((1 : Nat), Bd.same (3 : Nat))] ++ []) ++ ([] ++ ([] ++ []) ++ ([] ++ []))) (2 : Nat) (if i = n then [At.val (Value.int IntKind.u64 r), At.val (Value.int IntKind.i64 x)] else gIt (It.ins L n r x) i) (gIt (It.ins L n r x) i))]) (by kernel_rfl) (.cons (by rfl) (.cons (by rfl) (.cons (by rfl) (.cons (by rfl) (.cons (by rfl) (.cons (by (intro j hj; exact Or.elim (Decidable.em (j = n)) (fun a => by simp [a, It.ins, leAts, leAt, AllT]) (fun a => by simp [a, leAts, leAt, AllT]))) (.cons (by rfl) (.cons (by trivial) (.cons (by assumption) (.cons (by rfl) (.cons (by omega) (.cons (by omega) (.cons (by rfl) (.cons (by (intro j hj; exact Or.elim (Decidable.em (j = n)) (fun a => by simp [a, It.ins, leAts, leAt, AllT]) (fun a => by simp [a, leAts, leAt, AllT]))) (.cons (by rfl) (.cons (by (intro j hj; exact Or.elim (Decidable.em (j = n)) (fun a => by simp [a, It.ins, leAts, leAt, AllT]) (fun a => by simp [a, leAts, leAt, AllT]))) .nil)))))))))))))))) (Nat.le_of_ble_eq_true (by kernel_rfl))

set_option maxHeartbeats 2000000 in
theorem rrest (n : Nat) (L : It) (l : CodeOk Try.prog 1 (.loop (loopOf Try.f27 0)) (mkSt 19 [(0, .nv (.one (.own 0))), (3, .nv (.one (.own 1))), (4, iA (1 : Nat))] [.ro 2 n (gIt L), .row 46 2 0 (gIt L.rest)]) (.exit 0) (mkSt 19 [(3, .nv (.one (.own 1)))] [.ro 2 n (gIt L), .row 46 2 (n - 1) (gIt L.rest)])) : FnOk Try.prog 27 ([.nv (.one (.own 0))]) ([.ro 2 n (gIt L)]) (.nv (.one (.own 1))) ([.ro 2 n (gIt L), .row 46 2 (n - 1) (gIt L.rest)]) :=
  fn_run G0_ok Try.func27 (orc := ⟨[], [⟨mkSt 19 [(0, .nv (.one (.own 0))), (3, .nv (.one (.own 1))), (4, iA (1 : Nat))] [.ro 2 n (gIt L), .row 46 2 0 (gIt L.rest)], .exit 0, mkSt 19 [(3, .nv (.one (.own 1)))] [.ro 2 n (gIt L), .row 46 2 (n - 1) (gIt L.rest)]⟩]⟩) (obl := [(1 : Int) = (↑(1 : Nat) : Int),
      n = n,
      ∀ (i : Nat), i < n → It.r L i = It.r L i ∧ It.x L i = It.x L i ∧ True,
      (0 : Nat) = (0 : Nat),
      (1 : Nat) ≤ (2 : Nat),
      CodeOk Try.prog (1 : Nat) (Code.loop (loopOf Try.f27 (0 : Nat))) (mkSt (19 : Nat) [((0 : Nat), SV.nv (NV.one (At.own (0 : Nat)))), ((3 : Nat), SV.nv (NV.one (At.own (1 : Nat)))), ((4 : Nat), iA (↑(1 : Nat) : Int))] [Seg.ro (2 : Nat) n (gIt L), Seg.row (46 : TypeId) (2 : Nat) (0 : Nat) (gIt (It.rest L))]) (Ex.exit (0 : Nat)) (mkSt (19 : Nat) [((3 : Nat), SV.nv (NV.one (At.own (1 : Nat))))] [Seg.ro (2 : Nat) n (gIt L), Seg.row (46 : TypeId) (2 : Nat) (n - (1 : Nat)) (gIt (It.rest L))]),
      n = n,
      ∀ (i : Nat), i < n → It.r L i = It.r L i ∧ It.x L i = It.x L i ∧ True,
      n - (1 : Nat) = n - (1 : Nat),
      ∀ (i : Nat), i < n - (1 : Nat) → It.r (It.rest L) i = It.r (It.rest L) i ∧ It.x (It.rest L) i = It.x (It.rest L) i ∧ True]) (by kernel_rfl) (.cons (by rfl) (.cons (by rfl) (.cons (by (simp; done)) (.cons (by rfl) (.cons (by trivial) (.cons (by assumption) (.cons (by rfl) (.cons (by (simp; done)) (.cons (by rfl) (.cons (by (simp; done)) .nil)))))))))) (Nat.le_of_ble_eq_true (by kernel_rfl))

set_option maxHeartbeats 2000000 in
theorem rfront (n : Nat) (L : It) (l : CodeOk Try.prog 1 (.loop (loopOf Try.f28 0)) (mkSt 20 [(0, .nv (.one (.own 0))), (3, .nv (.one (.own 1))), (4, iA (0 : Nat))] [.ro 2 n (gIt L), .row 46 2 0 (gIt L)]) (.exit 0) (mkSt 20 [(3, .nv (.one (.own 1)))] [.ro 2 n (gIt L), .row 46 2 (n - 1) (gIt L)])) : FnOk Try.prog 28 ([.nv (.one (.own 0))]) ([.ro 2 n (gIt L)]) (.nv (.one (.own 1))) ([.ro 2 n (gIt L), .row 46 2 (n - 1) (gIt L)]) :=
  fn_run G0_ok Try.func28 (orc := ⟨[], [⟨mkSt 20 [(0, .nv (.one (.own 0))), (3, .nv (.one (.own 1))), (4, iA (0 : Nat))] [.ro 2 n (gIt L), .row 46 2 0 (gIt L)], .exit 0, mkSt 20 [(3, .nv (.one (.own 1)))] [.ro 2 n (gIt L), .row 46 2 (n - 1) (gIt L)]⟩]⟩) (obl := [(0 : Int) = (↑(0 : Nat) : Int),
      n = n,
      ∀ (i : Nat), i < n → It.r L i = It.r L i ∧ It.x L i = It.x L i ∧ True,
      (0 : Nat) = (0 : Nat),
      (1 : Nat) ≤ (2 : Nat),
      CodeOk Try.prog (1 : Nat) (Code.loop (loopOf Try.f28 (0 : Nat))) (mkSt (20 : Nat) [((0 : Nat), SV.nv (NV.one (At.own (0 : Nat)))), ((3 : Nat), SV.nv (NV.one (At.own (1 : Nat)))), ((4 : Nat), iA (↑(0 : Nat) : Int))] [Seg.ro (2 : Nat) n (gIt L), Seg.row (46 : TypeId) (2 : Nat) (0 : Nat) (gIt L)]) (Ex.exit (0 : Nat)) (mkSt (20 : Nat) [((3 : Nat), SV.nv (NV.one (At.own (1 : Nat))))] [Seg.ro (2 : Nat) n (gIt L), Seg.row (46 : TypeId) (2 : Nat) (n - (1 : Nat)) (gIt L)]),
      n = n,
      ∀ (i : Nat), i < n → It.r L i = It.r L i ∧ It.x L i = It.x L i ∧ True,
      n - (1 : Nat) = n - (1 : Nat),
      ∀ (i : Nat), i < n - (1 : Nat) → It.r L i = It.r L i ∧ It.x L i = It.x L i ∧ True]) (by kernel_rfl) (.cons (by rfl) (.cons (by rfl) (.cons (by (simp; done)) (.cons (by rfl) (.cons (by trivial) (.cons (by assumption) (.cons (by rfl) (.cons (by (simp; done)) (.cons (by rfl) (.cons (by (simp; done)) .nil)))))))))) (Nat.le_of_ble_eq_true (by kernel_rfl))

set_option maxHeartbeats 2000000 in
theorem rfirst_0 (L : It) : FnOk Try.prog 12 ([.nv (.one (.own 0))]) ([.ro 2 0 (gIt L)]) (itI 0 0 false) ([.ro 2 0 (gIt L)]) :=
  fn_run G0_ok Try.func12 (orc := ⟨[true], []⟩) (obl := [((↑(0 : Nat) : Int) == (0 : Int)) = true,
      (0 : Int) = (0 : Int),
      (0 : Int) = (0 : Int),
      false = false,
      (0 : Nat) = (0 : Nat),
      ∀ (i : Nat), i < (0 : Nat) → It.r L i = It.r L i ∧ It.x L i = It.x L i ∧ True]) (by kernel_rfl) (.cons (by rfl) (.cons (by rfl) (.cons (by rfl) (.cons (by rfl) (.cons (by rfl) (.cons (by omega) .nil)))))) (Nat.le_of_ble_eq_true (by kernel_rfl))

set_option maxHeartbeats 2000000 in
theorem rfirst_1 (n : Nat) (L : It) (h : 0 < n) : FnOk Try.prog 12 ([.nv (.one (.own 0))]) ([.ro 2 n (gIt L)]) (itI (L.r 0) (L.x 0) true) ([.ro 2 n (gIt L)]) :=
  fn_run G0_ok Try.func12 (orc := ⟨[false], []⟩) (obl := [((↑n : Int) == (0 : Int)) = false,
      (0 : Int) ≤ (0 : Int),
      (0 : Int) < (↑n : Int),
      (0 : Nat) < n,
      (0 : Int) ≤ (0 : Int),
      (0 : Int) < (↑n : Int),
      (0 : Nat) < n,
      It.r L (0 : Nat) = It.r L (0 : Nat),
      It.x L (0 : Nat) = It.x L (0 : Nat),
      true = true,
      n = n,
      ∀ (i : Nat), i < n → It.r L i = It.r L i ∧ It.x L i = It.x L i ∧ True]) (by kernel_rfl) (.cons (by exact decide_eq_false (by omega)) (.cons (by trivial) (.cons (by omega) (.cons (by assumption) (.cons (by trivial) (.cons (by omega) (.cons (by assumption) (.cons (by rfl) (.cons (by rfl) (.cons (by rfl) (.cons (by rfl) (.cons (by (simp; done)) .nil)))))))))))) (Nat.le_of_ble_eq_true (by kernel_rfl))

set_option maxHeartbeats 2000000 in
theorem rlast_0 (L : It) : FnOk Try.prog 14 ([.nv (.one (.own 0))]) ([.ro 2 0 (gIt L)]) (itI 0 0 false) ([.ro 2 0 (gIt L)]) :=
  fn_run G0_ok Try.func14 (orc := ⟨[true], []⟩) (obl := [((↑(0 : Nat) : Int) == (0 : Int)) = true,
      (0 : Int) = (0 : Int),
      (0 : Int) = (0 : Int),
      false = false,
      (0 : Nat) = (0 : Nat),
      ∀ (i : Nat), i < (0 : Nat) → It.r L i = It.r L i ∧ It.x L i = It.x L i ∧ True]) (by kernel_rfl) (.cons (by rfl) (.cons (by rfl) (.cons (by rfl) (.cons (by rfl) (.cons (by rfl) (.cons (by omega) .nil)))))) (Nat.le_of_ble_eq_true (by kernel_rfl))

set_option maxHeartbeats 2000000 in
theorem rlast_1 (n : Nat) (L : It) (h : 0 < n) (hn : n ≤ 100000) (e : IntKind.wrap IntKind.i64 ((n : Int) - 1) = (n - 1 : Nat)) : FnOk Try.prog 14 ([.nv (.one (.own 0))]) ([.ro 2 n (gIt L)]) (itI (L.r (n - 1)) (L.x (n - 1)) true) ([.ro 2 n (gIt L)]) :=
  fn_run G0_ok Try.func14 (orc := ⟨[false], []⟩) (obl := [((↑n : Int) == (0 : Int)) = false,
      (0 : Int) ≤ IntKind.wrap IntKind.i64 ((↑n : Int) - (1 : Int)),
      IntKind.wrap IntKind.i64 ((↑n : Int) - (1 : Int)) < (↑n : Int),
      Int.toNat (IntKind.wrap IntKind.i64 ((↑n : Int) - (1 : Int))) < n,
      (0 : Int) ≤ IntKind.wrap IntKind.i64 ((↑n : Int) - (1 : Int)),
      IntKind.wrap IntKind.i64 ((↑n : Int) - (1 : Int)) < (↑n : Int),
      Int.toNat (IntKind.wrap IntKind.i64 ((↑n : Int) - (1 : Int))) < n,
      It.r L (Int.toNat (IntKind.wrap IntKind.i64 ((↑n : Int) - (1 : Int)))) = It.r L (n - (1 : Nat)),
      It.x L (Int.toNat (IntKind.wrap IntKind.i64 ((↑n : Int) - (1 : Int)))) = It.x L (n - (1 : Nat)),
      true = true,
      n = n,
      ∀ (i : Nat), i < n → It.r L i = It.r L i ∧ It.x L i = It.x L i ∧ True]) (by kernel_rfl) (.cons (by exact decide_eq_false (by omega)) (.cons (by (simp only [e]; omega)) (.cons (by (simp only [e]; omega)) (.cons (by (simp only [e]; omega)) (.cons (by (simp only [e]; omega)) (.cons (by (simp only [e]; omega)) (.cons (by (simp only [e]; omega)) (.cons (by (simp only [e]; rfl)) (.cons (by (simp only [e]; rfl)) (.cons (by rfl) (.cons (by rfl) (.cons (by (simp; done)) .nil)))))))))))) (Nat.le_of_ble_eq_true (by kernel_rfl))

set_option maxHeartbeats 2000000 in
theorem rmay_a (m : Int) (h : m < 1) : PureOk Try.prog 8 ([iA m]) (bA false) :=
  pure_run G0_ok Try.func8 (orc := ⟨[false], []⟩) (obl := [decide (m ≥ (1 : Int)) = false,
      false = false]) (by kernel_rfl) (.cons (by exact decide_eq_false (by omega)) (.cons (by rfl) .nil))

set_option maxHeartbeats 2000000 in
theorem rmay_b (m : Int) (h : 4096 < m) : PureOk Try.prog 8 ([iA m]) (bA false) :=
  pure_run G0_ok Try.func8 (orc := ⟨[true], []⟩) (obl := [decide (m ≥ (1 : Int)) = true,
      decide (m ≤ (4096 : Int)) = false]) (by kernel_rfl) (.cons (by exact decide_eq_true (by omega)) (.cons (by exact decide_eq_false (by omega)) .nil))

set_option maxHeartbeats 2000000 in
theorem rmay_c (m : Int) (h : 1 ≤ m) (h2 : m ≤ 4096) : PureOk Try.prog 8 ([iA m]) (bA true) :=
  pure_run G0_ok Try.func8 (orc := ⟨[true], []⟩) (obl := [decide (m ≥ (1 : Int)) = true,
      decide (m ≤ (4096 : Int)) = true]) (by kernel_rfl) (.cons (by exact decide_eq_true (by omega)) (.cons (by exact decide_eq_true (by omega)) .nil))
end Go.Proofs.Ytakpokccjgoapaa
