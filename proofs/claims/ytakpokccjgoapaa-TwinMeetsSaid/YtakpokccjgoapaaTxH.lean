/- Runs of Go code, as printed by a program: no condition beyond those that each states. -/
import Derived.Test.YtakpokccjgoapaaTxG
import Derived.Test.YtakpokccjgoapaaChecked
import Derived.KernelRfl
namespace Go.Proofs.Ytakpokccjgoapaa
set_option linter.unusedVariables false
set_option linter.unusedSimpArgs false
set_option maxRecDepth 100000
open Go.RowKit E
set_option maxHeartbeats 2000000 in
theorem rsq_a (n : Nat) (L : It) (r x m : Int) (hn : n ≤ 100000) (h : (n : Int) < m) : FnOk Try.prog 29 ([.nv (.one (.own 0)), iA m, uA r, iA x]) ([rwIt n L]) (.tup [.one (.own 1), .one (.val (.int .i64 0)), .one (.val (.bool false))]) ([.gone, rwIt (n + 1) (L.ins (L.pos r n) r x)]) :=
  fn_run Gi0_ok Try.func29 (orc := ⟨[true], []⟩) (obl := [decide ((↑n : Int) < m) = true,
      n ≤ (100000 : Nat),
      r = r,
      x = x,
      n = n,
      ∀ (i : Nat), i < n → It.r L i = It.r (itOf (gIt L)) i ∧ It.x L i = It.x (itOf (gIt L)) i ∧ True,
      ∀ (i : Nat), i < n + (1 : Nat) → (true && (true && true)) = true,
      (0 : Int) = (0 : Int),
      false = false,
      n + (1 : Nat) = n + (1 : Nat),
      ∀ (i : Nat), i < n + (1 : Nat) → It.r (It.ins (itOf (gIt L)) (It.pos (itOf (gIt L)) r n) r x) i = It.r (It.ins L (It.pos L r n) r x) i ∧ It.x (It.ins (itOf (gIt L)) (It.pos (itOf (gIt L)) r n) r x) i = It.x (It.ins L (It.pos L r n) r x) i ∧ True]) (by kernel_rfl) (.cons (by exact decide_eq_true (by omega)) (.cons (by assumption) (.cons (by rfl) (.cons (by rfl) (.cons (by rfl) (.cons (by (intro _ _; exact ⟨rfl, rfl, trivial⟩)) (.cons (by (intro _ _; rfl)) (.cons (by rfl) (.cons (by rfl) (.cons (by rfl) (.cons (by (intro _ _; exact ⟨rfl, rfl, trivial⟩)) .nil))))))))))) (Nat.le_of_ble_eq_true (by kernel_rfl))

set_option maxHeartbeats 2000000 in
theorem rsq_b (n : Nat) (L : It) (r x m : Int) (hn : n ≤ 100000) (h : ¬ (n : Int) < m) (hw : laR L n ≤ r) : FnOk Try.prog 29 ([.nv (.one (.own 0)), iA m, uA r, iA x]) ([rwIt n L]) (.tup [.one (.own 1), .one (.val (.int .i64 x)), .one (.val (.bool true))]) ([.gone, rwIt n L]) :=
  fn_run Gi0_ok Try.func29 (orc := ⟨[false, true], []⟩) (obl := [decide ((↑n : Int) < m) = false,
      n ≤ (100000 : Nat),
      n = n,
      ∀ (i : Nat), i < n → It.r L i = It.r (itOf (gIt L)) i ∧ It.x L i = It.x (itOf (gIt L)) i ∧ True,
      decide (laR (itOf (gIt L)) n ≤ r) = true,
      x = x,
      true = true,
      n = n,
      ∀ (i : Nat), i < n → It.r L i = It.r L i ∧ It.x L i = It.x L i ∧ True]) (by kernel_rfl) (.cons (by exact decide_eq_false (by omega)) (.cons (by assumption) (.cons (by rfl) (.cons (by (intro _ _; exact ⟨rfl, rfl, trivial⟩)) (.cons (by exact decide_eq_true (by simp only [it_g]; exact hw)) (.cons (by rfl) (.cons (by rfl) (.cons (by rfl) (.cons (by (intro _ _; exact ⟨rfl, rfl, trivial⟩)) .nil))))))))) (Nat.le_of_ble_eq_true (by kernel_rfl))

set_option maxHeartbeats 2000000 in
theorem rsq_c (n : Nat) (L : It) (r x m : Int) (hn : n ≤ 100000) (h : ¬ (n : Int) < m) (hw : ¬ laR L n ≤ r) : FnOk Try.prog 29 ([.nv (.one (.own 0)), iA m, uA r, iA x]) ([rwIt n L]) (.tup [.one (.own 1), .one (.val (.int .i64 (laX L n))), .one (.val (.bool true))]) ([.gone, rwIt (n - 1 + 1) (L.ins (L.pos r (n - 1)) r x)]) :=
  fn_run Gi0_ok Try.func29 (orc := ⟨[false, false], []⟩) (obl := [decide ((↑n : Int) < m) = false,
      n ≤ (100000 : Nat),
      n = n,
      ∀ (i : Nat), i < n → It.r L i = It.r (itOf (gIt L)) i ∧ It.x L i = It.x (itOf (gIt L)) i ∧ True,
      decide (laR (itOf (gIt L)) n ≤ r) = false,
      n ≤ (100000 : Nat),
      n = n,
      ∀ (i : Nat), i < n → It.r L i = It.r (itOf (gIt L)) i ∧ It.x L i = It.x (itOf (gIt L)) i ∧ True,
      ∀ (i : Nat), i < n - (1 : Nat) → (true && (true && true)) = true,
      n - (1 : Nat) ≤ (100000 : Nat),
      r = r,
      x = x,
      n - (1 : Nat) = n - (1 : Nat),
      ∀ (i : Nat), i < n - (1 : Nat) → It.r (itOf (gIt L)) i = It.r (itOf (gIt (itOf (gIt L)))) i ∧ It.x (itOf (gIt L)) i = It.x (itOf (gIt (itOf (gIt L)))) i ∧ True,
      ∀ (i : Nat), i < n - (1 : Nat) + (1 : Nat) → (true && (true && true)) = true,
      laX (itOf (gIt L)) n = laX L n,
      true = true,
      n - (1 : Nat) + (1 : Nat) = n - (1 : Nat) + (1 : Nat),
      ∀ (i : Nat), i < n - (1 : Nat) + (1 : Nat) → It.r (It.ins (itOf (gIt (itOf (gIt L)))) (It.pos (itOf (gIt (itOf (gIt L)))) r (n - (1 : Nat))) r x) i = It.r (It.ins L (It.pos L r (n - (1 : Nat))) r x) i ∧ It.x (It.ins (itOf (gIt (itOf (gIt L)))) (It.pos (itOf (gIt (itOf (gIt L)))) r (n - (1 : Nat))) r x) i = It.x (It.ins L (It.pos L r (n - (1 : Nat))) r x) i ∧ True]) (by kernel_rfl) (.cons (by exact decide_eq_false (by omega)) (.cons (by assumption) (.cons (by rfl) (.cons (by (intro _ _; exact ⟨rfl, rfl, trivial⟩)) (.cons (by exact decide_eq_false (by simp only [it_g]; exact hw)) (.cons (by assumption) (.cons (by rfl) (.cons (by (intro _ _; exact ⟨rfl, rfl, trivial⟩)) (.cons (by (intro _ _; rfl)) (.cons (by omega) (.cons (by rfl) (.cons (by rfl) (.cons (by rfl) (.cons (by (intro _ _; exact ⟨rfl, rfl, trivial⟩)) (.cons (by (intro _ _; rfl)) (.cons (by rfl) (.cons (by rfl) (.cons (by rfl) (.cons (by (intro _ _; exact ⟨rfl, rfl, trivial⟩)) .nil))))))))))))))))))) (Nat.le_of_ble_eq_true (by kernel_rfl))
end Go.Proofs.Ytakpokccjgoapaa
