/- Runs of Go code, as printed by a program: no condition beyond those that each states. -/
import Derived.Test.YtecgigeahkijaaaOpH
import Derived.Test.YtecgigeahkijaaaChecked
import Derived.KernelRfl
namespace Go.Proofs.Ytecgigeahkijaaa
set_option linter.unusedVariables false
set_option linter.unusedSimpArgs false
set_option maxRecDepth 100000
open Go.RowKit E
attribute [local irreducible] errT atN fldT oneZ numZ txtZ oneX oneW oneL numO opX
set_option maxHeartbeats 2000000 in
theorem rd_l (s : ByteArray) (h : 5000 < s.size) : LawOk Try.prog 3 ([sA s]) ([]) (bA true) :=
  law_run GoC_ok Try.func3 (orc := ⟨[true], []⟩) (obl := [decide ((↑(ByteArray.size s) : Int) > (5000 : Int)) = true,
      true = true]) (by kernel_rfl) (.cons (by exact decide_eq_true (by omega)) (.cons (by rfl) .nil))

set_option maxHeartbeats 2000000 in
theorem rd_m (s : ByteArray) (h : s.size ≤ 5000) (hn : numO s ≤ 5000) : LawOk Try.prog 3 ([sA s]) ([]) (bA true) :=
  law_run GoC_ok Try.func3 (orc := ⟨[false, true], []⟩) (obl := [decide ((↑(ByteArray.size s) : Int) > (5000 : Int)) = false,
      ByteArray.size s ≤ (100000000 : Nat),
      s = s,
      ∀ (i : Nat), i < numO s → (true && (true && (true && (true && (true && true))))) = true,
      ByteArray.size s ≤ (100000000 : Nat),
      s = s,
      ∀ (i : Nat), i < numO s → (true && (true && (true && (true && (true && true))))) = true,
      numO s ≤ (100000000 : Nat),
      ∀ (i : Nat), i < numO s → opOf (gO (opX s)) i = opOf (gO (opX s)) i,
      numO s = numO s,
      ∀ (i : Nat), i < numO s → Op5.k (opX s i) = Op5.k (opOf (gO (opX s)) i) ∧ Op5.fl (opX s i) = Op5.fl (opOf (gO (opX s)) i) ∧ Op5.id (opX s i) = Op5.id (opOf (gO (opX s)) i) ∧ Op5.ln (opX s i) = Op5.ln (opOf (gO (opX s)) i) ∧ Op5.tk (opX s i) = Op5.tk (opOf (gO (opX s)) i) ∧ True,
      numO s = numO s,
      ∀ (i : Nat), i < numO s → Op5.k (opX s i) = Op5.k (opOf (gO (opX s)) i) ∧ Op5.fl (opX s i) = Op5.fl (opOf (gO (opX s)) i) ∧ Op5.id (opX s i) = Op5.id (opOf (gO (opX s)) i) ∧ Op5.ln (opX s i) = Op5.ln (opOf (gO (opX s)) i) ∧ Op5.tk (opX s i) = Op5.tk (opOf (gO (opX s)) i) ∧ True,
      true = true,
      true = true]) (by kernel_rfl) (.cons (by exact decide_eq_false (by omega)) (.cons (by omega) (.cons (by rfl) (.cons (by (intro _ _; rfl)) (.cons (by omega) (.cons (by rfl) (.cons (by (intro _ _; rfl)) (.cons (by omega) (.cons (by (intro _ _; rfl)) (.cons (by rfl) (.cons (by (intro _ _; exact ⟨rfl, rfl, rfl, rfl, rfl, trivial⟩)) (.cons (by rfl) (.cons (by (intro _ _; exact ⟨rfl, rfl, rfl, rfl, rfl, trivial⟩)) (.cons (by rfl) (.cons (by rfl) .nil)))))))))))))))
end Go.Proofs.Ytecgigeahkijaaa
