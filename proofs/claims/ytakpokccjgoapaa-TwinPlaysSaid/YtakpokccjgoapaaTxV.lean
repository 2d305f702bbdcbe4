/- Runs of Go code, as printed by a program: no condition beyond those that each states. -/
import Derived.Test.YtakpokccjgoapaaTxT
import Derived.Test.YtakpokccjgoapaaChecked
import Derived.KernelRfl
namespace Go.Proofs.Ytakpokccjgoapaa
set_option linter.unusedVariables false
set_option linter.unusedSimpArgs false
set_option maxRecDepth 100000
open Go.RowKit E
set_option maxHeartbeats 2000000 in
theorem tp_x (m : Int) (len : Nat) (A : TA) (hm : mayB m = false) (h : m < 1 ∨ 4096 < m) : LawOk Try.prog 3 ([iA m, .nv (.one (.own 0))]) ([.ro 3 len (gTA A)]) (bA true) :=
  law_run Gpx_ok Try.func3 (orc := ⟨[false, false, true, false, true, true], []⟩) (obl := [m < (1 : Int) ∨ (4096 : Int) < m,
      m = m,
      (!mayB m == ((25 : Int) == (0 : Int))) = false,
      (!mayB m == false) = false,
      (!mayB m) = true,
      ((25 : Int) != (25 : Int)) = false,
      (!mayB m) = true,
      true = true,
      true = true]) (by kernel_rfl) (.cons (by assumption) (.cons (by rfl) (.cons (by (rw [hm]; rfl)) (.cons (by (rw [hm]; rfl)) (.cons (by (rw [hm]; rfl)) (.cons (by rfl) (.cons (by (rw [hm]; rfl)) (.cons (by rfl) (.cons (by rfl) .nil)))))))))

set_option maxHeartbeats 2000000 in
theorem tp_l (m : Int) (len : Nat) (A : TA) (hm : mayB m = true) (h1 : 1 ≤ m) (h2 : m ≤ 4096) (h : 300 < len) : LawOk Try.prog 3 ([iA m, .nv (.one (.own 0))]) ([.ro 3 len (gTA A)]) (bA true) :=
  law_run Gpn_ok Try.func3 (orc := ⟨[false, false, false, false, false, true], []⟩) (obl := [(1 : Int) ≤ m,
      m ≤ (4096 : Int),
      m = m,
      ∀ (i : Nat), i < (0 : Nat) → (true && (true && (true && true))) = true,
      (!mayB m == ((0 : Int) == (0 : Int))) = false,
      (!mayB m == true) = false,
      (!mayB m) = false,
      false = false,
      (!mayB m) = false,
      decide ((↑len : Int) > (300 : Int)) = true,
      true = true]) (by kernel_rfl) (.cons (by assumption) (.cons (by assumption) (.cons (by rfl) (.cons (by trivial) (.cons (by (rw [hm]; rfl)) (.cons (by (rw [hm]; rfl)) (.cons (by (rw [hm]; rfl)) (.cons (by rfl) (.cons (by (rw [hm]; rfl)) (.cons (by exact decide_eq_true (by omega)) (.cons (by rfl) .nil)))))))))))

set_option maxHeartbeats 2000000 in
theorem tp_m (m : Int) (len : Nat) (A : TA) (L : It) (hm : mayB m = true) (h1 : 1 ≤ m) (h2 : m ≤ 4096) (h : ¬ 300 < len) (l : CodeOk Try.prog 1 (.loop (loopOf Try.f3 0)) (tpS m 0 len 0 0 A tw0I L) (.exit 0) (mkSt 128 [] [.ro 3 len (gTA A)])) : LawOk Try.prog 3 ([iA m, .nv (.one (.own 0))]) ([.ro 3 len (gTA A)]) (bA true) :=
  law_run Gpn_ok Try.func3 (orc := ⟨[false, false, false, false, false, false], [⟨tpS m 0 len 0 0 A tw0I L, .exit 0, mkSt 128 [] [.ro 3 len (gTA A)]⟩]⟩) (obl := [(1 : Int) ≤ m,
      m ≤ (4096 : Int),
      m = m,
      ∀ (i : Nat), i < (0 : Nat) → (true && (true && (true && true))) = true,
      (!mayB m == ((0 : Int) == (0 : Int))) = false,
      (!mayB m == true) = false,
      (!mayB m) = false,
      false = false,
      (!mayB m) = false,
      decide ((↑len : Int) > (300 : Int)) = false,
      m = m,
      (0 : Nat) = (0 : Nat),
      (0 : Nat) = (0 : Nat),
      (↑len : Int) = (↑len : Int),
      (0 : Int) = (↑(0 : Nat) : Int),
      len = len,
      ∀ (i : Nat), i < len → TA.kd A i = TA.kd A i ∧ TA.r A i = TA.r A i ∧ TA.x A i = TA.x A i ∧ True,
      (0 : Int) = (0 : Int),
      m = m,
      (0 : Nat) = (0 : Nat),
      ∀ (i : Nat), i < (0 : Nat) → Tw.r tw0I i = Tw.r tw0I i ∧ Tw.c tw0I i = Tw.c tw0I i ∧ Tw.x tw0I i = Tw.x tw0I i ∧ True,
      (0 : Nat) = (0 : Nat),
      (1 : Nat) ≤ (5 : Nat),
      CodeOk Try.prog (1 : Nat) (Code.loop (loopOf Try.f3 (0 : Nat))) (tpS m (0 : Int) len (0 : Nat) (0 : Nat) A tw0I L) (Ex.exit (0 : Nat)) (mkSt (128 : Nat) [] [Seg.ro (3 : Nat) len (gTA A)]),
      true = true]) (by kernel_rfl) (.cons (by assumption) (.cons (by assumption) (.cons (by rfl) (.cons (by trivial) (.cons (by (rw [hm]; rfl)) (.cons (by (rw [hm]; rfl)) (.cons (by (rw [hm]; rfl)) (.cons (by rfl) (.cons (by (rw [hm]; rfl)) (.cons (by exact decide_eq_false (by omega)) (.cons (by rfl) (.cons (by rfl) (.cons (by rfl) (.cons (by rfl) (.cons (by rfl) (.cons (by rfl) (.cons (by (intro _ _; exact ⟨rfl, rfl, rfl, trivial⟩)) (.cons (by rfl) (.cons (by rfl) (.cons (by rfl) (.cons (by trivial) (.cons (by rfl) (.cons (by trivial) (.cons (by assumption) (.cons (by rfl) .nil)))))))))))))))))))))))))
end Go.Proofs.Ytakpokccjgoapaa
