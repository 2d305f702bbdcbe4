/- Runs of Go code, as printed by a program: no condition beyond those that each states. -/
import Derived.Test.YtakpokccjgoapaaTxD
import Derived.Test.YtakpokccjgoapaaChecked
import Derived.KernelRfl
namespace Go.Proofs.Ytakpokccjgoapaa
set_option linter.unusedVariables false
set_option linter.unusedSimpArgs false
set_option maxRecDepth 100000
open Go.RowKit E
set_option maxHeartbeats 2000000 in
theorem pu_p (n i p : Nat) (L : It) (r x : Int) (hi : i < n) (hn : n ≤ 100000) (hp : p < i) : CodeOk Try.prog 1 (loopOf Try.f26 0) (mkSt 49 [(0, .nv (.one (.own 0))), (1, uA r), (2, iA x), (7, .nv (.one (.own 1))), (8, bA true), (9, iA i)] [.ro 2 n (gIt L), .row 46 2 (i + 1) (gIt (L.ins p r x))]) .normal (mkSt 49 [(0, .nv (.one (.own 0))), (1, uA r), (2, iA x), (7, .nv (.one (.own 1))), (8, bA true), (9, iA (i + 1 : Nat))] [.ro 2 n (gIt L), .row 46 2 (i + 2) (gIt (L.ins p r x))]) :=
  code_run G0_ok (orc := ⟨[true, false, false], []⟩) (obl := [decide ((↑i : Int) < (↑n : Int)) = true,
      (!true) = false,
      false = false,
      (0 : Int) ≤ (↑i : Int),
      (↑i : Int) < (↑n : Int),
      Int.toNat (↑i : Int) < n,
      i + (1 : Nat) + (1 : Nat) ≤ (4611686018427387904 : Nat),
      (i + (1 : Nat) + (1 : Nat)) * (16 : Nat) ≤ (140737488355328 : Nat),
      r = r,
      x = x,
      true = true,
      IntKind.wrap IntKind.i64 ((↑i : Int) + (1 : Int)) = (↑(i + (1 : Nat)) : Int),
      n = n,
      ∀ (i : Nat), i < n → It.r L i = It.r L i ∧ It.x L i = It.x L i ∧ True,
      i + (1 : Nat) + (1 : Nat) = i + (2 : Nat),
      ∀ (i_1 : Nat), i_1 < i + (1 : Nat) + (1 : Nat) → AllT (leAts ([(nat_lit 0, Bd.same (nat_lit 0))] ++ ([((0 : Nat), Bd.same (0 : Nat))] ++ ([] ++ ([] ++ ([((1 : Nat), Bd.same (3 : Nat))] ++ ([] ++ ([] ++ [])))))) ++ ([] ++ ([] ++ ([] ++ [])) ++ ([] ++ []))) (2 : Nat) (if i_1 = i + (1 : Nat) then [At.val (Value.int IntKind.u64 (It.r L (Int.toNat (↑i : Int)))), At.val (Value.int IntKind.i64 (It.x L (Int.toNat (↑i : Int))))] else gIt (It.ins L p r x) i_1) (gIt (It.ins L p r x) i_1))]) (by kernel_rfl) (.cons (by exact decide_eq_true (by omega)) (.cons (by rfl) (.cons (by rfl) (.cons (by omega) (.cons (by omega) (.cons (by assumption) (.cons (by omega) (.cons (by omega) (.cons (by rfl) (.cons (by rfl) (.cons (by rfl) (.cons (by exact w64 (by omega) (by omega)) (.cons (by rfl) (.cons (by (intro j hj; exact Or.elim (Decidable.em (j = i + 1)) (fun a => by (subst a; simp [It.ins, leAts, leAt, AllT, show ¬ i + 1 < p by omega, show ¬ i + 1 = p by omega])) (fun a => by simp [a, leAts, leAt, AllT]))) (.cons (by rfl) (.cons (by (intro j hj; exact Or.elim (Decidable.em (j = i + 1)) (fun a => by (subst a; simp [It.ins, leAts, leAt, AllT, show ¬ i + 1 < p by omega, show ¬ i + 1 = p by omega])) (fun a => by simp [a, leAts, leAt, AllT]))) .nil)))))))))))))))) (Nat.le_of_ble_eq_true (by kernel_rfl))

set_option maxHeartbeats 2000000 in
theorem pu_h (n i : Nat) (L : It) (r x : Int) (hi : i < n) (hn : n ≤ 100000) (h : r < L.r i) : CodeOk Try.prog 1 (loopOf Try.f26 0) (mkSt 49 [(0, .nv (.one (.own 0))), (1, uA r), (2, iA x), (7, .nv (.one (.own 1))), (8, bA false), (9, iA i)] [.ro 2 n (gIt L), .row 46 2 i (gIt (L.ins i r x))]) .normal (mkSt 49 [(0, .nv (.one (.own 0))), (1, uA r), (2, iA x), (7, .nv (.one (.own 1))), (8, bA true), (9, iA (i + 1 : Nat))] [.ro 2 n (gIt L), .row 46 2 (i + 2) (gIt (L.ins i r x))]) :=
  code_run G0_ok (orc := ⟨[true, true, true], []⟩) (obl := [decide ((↑i : Int) < (↑n : Int)) = true,
      (!false) = true,
      (0 : Int) ≤ (↑i : Int),
      (↑i : Int) < (↑n : Int),
      Int.toNat (↑i : Int) < n,
      decide (r < It.r L (Int.toNat (↑i : Int))) = true,
      i + (1 : Nat) ≤ (4611686018427387904 : Nat),
      (i + (1 : Nat)) * (16 : Nat) ≤ (140737488355328 : Nat),
      (0 : Int) ≤ (↑i : Int),
      (↑i : Int) < (↑n : Int),
      Int.toNat (↑i : Int) < n,
      i + (1 : Nat) + (1 : Nat) ≤ (4611686018427387904 : Nat),
      (i + (1 : Nat) + (1 : Nat)) * (16 : Nat) ≤ (140737488355328 : Nat),
      r = r,
      x = x,
      true = true,
      IntKind.wrap IntKind.i64 ((↑i : Int) + (1 : Int)) = (↑(i + (1 : Nat)) : Int),
      n = n,
      ∀ (i : Nat), i < n → It.r L i = It.r L i ∧ It.x L i = It.x L i ∧ True,
      i + (1 : Nat) + (1 : Nat) = i + (2 : Nat),
      ∀ (i_1 : Nat), i_1 < i + (1 : Nat) + (1 : Nat) → AllT (leAts ([(nat_lit 0, Bd.same (nat_lit 0))] ++ ([((0 : Nat), Bd.same (0 : Nat))] ++ ([] ++ ([] ++ ([((1 : Nat), Bd.same (5 : Nat))] ++ ([] ++ ([] ++ [])))))) ++ ([] ++ ([] ++ ([] ++ [])) ++ ([] ++ []))) (2 : Nat) (if i_1 = i + (1 : Nat) then [At.val (Value.int IntKind.u64 (It.r L (Int.toNat (↑i : Int)))), At.val (Value.int IntKind.i64 (It.x L (Int.toNat (↑i : Int))))] else if i_1 = i then [At.val (Value.int IntKind.u64 r), At.val (Value.int IntKind.i64 x)] else gIt (It.ins L i r x) i_1) (gIt (It.ins L i r x) i_1))]) (by kernel_rfl) (.cons (by exact decide_eq_true (by omega)) (.cons (by rfl) (.cons (by omega) (.cons (by omega) (.cons (by assumption) (.cons (by (simp [*]; done)) (.cons (by omega) (.cons (by omega) (.cons (by omega) (.cons (by omega) (.cons (by assumption) (.cons (by omega) (.cons (by omega) (.cons (by rfl) (.cons (by rfl) (.cons (by rfl) (.cons (by exact w64 (by omega) (by omega)) (.cons (by rfl) (.cons (by (intro j hj; exact Or.elim (Decidable.em (j = i + 1)) (fun a => by (subst a; simp [It.ins, leAts, leAt, AllT, show ¬ i + 1 < i by omega, show ¬ i + 1 = i by omega])) (fun a => Or.elim (Decidable.em (j = i)) (fun b => by simp [b, It.ins, leAts, leAt, AllT, show ¬ i = i + 1 by omega]) (fun b => by simp [a, b, leAts, leAt, AllT])))) (.cons (by rfl) (.cons (by (intro j hj; exact Or.elim (Decidable.em (j = i + 1)) (fun a => by (subst a; simp [It.ins, leAts, leAt, AllT, show ¬ i + 1 < i by omega, show ¬ i + 1 = i by omega])) (fun a => Or.elim (Decidable.em (j = i)) (fun b => by simp [b, It.ins, leAts, leAt, AllT, show ¬ i = i + 1 by omega]) (fun b => by simp [a, b, leAts, leAt, AllT])))) .nil))))))))))))))))))))) (Nat.le_of_ble_eq_true (by kernel_rfl))

set_option maxHeartbeats 2000000 in
theorem pu_m (n i : Nat) (L : It) (r x : Int) (hi : i < n) (hn : n ≤ 100000) (h : ¬ r < L.r i) : CodeOk Try.prog 1 (loopOf Try.f26 0) (mkSt 49 [(0, .nv (.one (.own 0))), (1, uA r), (2, iA x), (7, .nv (.one (.own 1))), (8, bA false), (9, iA i)] [.ro 2 n (gIt L), .row 46 2 i (gIt (L.ins i r x))]) .normal (mkSt 49 [(0, .nv (.one (.own 0))), (1, uA r), (2, iA x), (7, .nv (.one (.own 1))), (8, bA false), (9, iA (i + 1 : Nat))] [.ro 2 n (gIt L), .row 46 2 (i + 1) (gIt (L.ins (i + 1) r x))]) :=
  code_run G0_ok (orc := ⟨[true, true, false], []⟩) (obl := [decide ((↑i : Int) < (↑n : Int)) = true,
      (!false) = true,
      (0 : Int) ≤ (↑i : Int),
      (↑i : Int) < (↑n : Int),
      Int.toNat (↑i : Int) < n,
      decide (r < It.r L (Int.toNat (↑i : Int))) = false,
      (0 : Int) ≤ (↑i : Int),
      (↑i : Int) < (↑n : Int),
      Int.toNat (↑i : Int) < n,
      i + (1 : Nat) ≤ (4611686018427387904 : Nat),
      (i + (1 : Nat)) * (16 : Nat) ≤ (140737488355328 : Nat),
      r = r,
      x = x,
      false = false,
      IntKind.wrap IntKind.i64 ((↑i : Int) + (1 : Int)) = (↑(i + (1 : Nat)) : Int),
      n = n,
      ∀ (i : Nat), i < n → It.r L i = It.r L i ∧ It.x L i = It.x L i ∧ True,
      i + (1 : Nat) = i + (1 : Nat),
      ∀ (i_1 : Nat), i_1 < i + (1 : Nat) → AllT (leAts ([(nat_lit 0, Bd.same (nat_lit 0))] ++ ([((0 : Nat), Bd.same (0 : Nat))] ++ ([] ++ ([] ++ ([((1 : Nat), Bd.same (3 : Nat))] ++ ([] ++ ([] ++ [])))))) ++ ([] ++ ([] ++ ([] ++ [])) ++ ([] ++ []))) (2 : Nat) (if i_1 = i then [At.val (Value.int IntKind.u64 (It.r L (Int.toNat (↑i : Int)))), At.val (Value.int IntKind.i64 (It.x L (Int.toNat (↑i : Int))))] else gIt (It.ins L i r x) i_1) (gIt (It.ins L (i + (1 : Nat)) r x) i_1))]) (by kernel_rfl) (.cons (by exact decide_eq_true (by omega)) (.cons (by rfl) (.cons (by omega) (.cons (by omega) (.cons (by assumption) (.cons (by (simp [*]; done)) (.cons (by omega) (.cons (by omega) (.cons (by assumption) (.cons (by omega) (.cons (by omega) (.cons (by rfl) (.cons (by rfl) (.cons (by rfl) (.cons (by exact w64 (by omega) (by omega)) (.cons (by rfl) (.cons (by (simp; done)) (.cons (by rfl) (.cons (by (intro j hj; replace hj : j < i + 1 := hj; exact Or.elim (Decidable.em (j = i)) (fun a => by (subst a; simp [It.ins, leAts, leAt, AllT])) (fun a => by simp [a, It.ins, leAts, leAt, AllT, show j < i by omega, show j < i + 1 by omega]))) .nil))))))))))))))))))) (Nat.le_of_ble_eq_true (by kernel_rfl))

set_option maxHeartbeats 2000000 in
theorem pu_e (n m p : Nat) (b : Bool) (L : It) (r x : Int) : CodeOk Try.prog 1 (loopOf Try.f26 0) (mkSt 49 [(0, .nv (.one (.own 0))), (1, uA r), (2, iA x), (7, .nv (.one (.own 1))), (8, bA b), (9, iA n)] [.ro 2 n (gIt L), .row 46 2 m (gIt (L.ins p r x))]) (.exit 0) (mkSt 49 [(1, uA r), (2, iA x), (7, .nv (.one (.own 1))), (8, bA b)] [.ro 2 n (gIt L), .row 46 2 m (gIt (L.ins p r x))]) :=
  code_run G0_ok (orc := ⟨[false], []⟩) (obl := [decide ((↑n : Int) < (↑n : Int)) = false,
      r = r,
      x = x,
      b = b,
      n = n,
      ∀ (i : Nat), i < n → It.r L i = It.r L i ∧ It.x L i = It.x L i ∧ True,
      m = m,
      ∀ (i : Nat), i < m → It.r (It.ins L p r x) i = It.r (It.ins L p r x) i ∧ It.x (It.ins L p r x) i = It.x (It.ins L p r x) i ∧ True]) (by kernel_rfl) (.cons (by exact decide_eq_false (by omega)) (.cons (by rfl) (.cons (by rfl) (.cons (by rfl) (.cons (by rfl) (.cons (by (simp; done)) (.cons (by rfl) (.cons (by (simp; done)) .nil)))))))) (Nat.le_of_ble_eq_true (by kernel_rfl))

set_option maxHeartbeats 2000000 in
theorem rs_n (n i : Nat) (L : It) (hi : i + 1 < n) (hn : n ≤ 100000) : CodeOk Try.prog 1 (loopOf Try.f27 0) (mkSt 19 [(0, .nv (.one (.own 0))), (3, .nv (.one (.own 1))), (4, iA (i + 1 : Nat))] [.ro 2 n (gIt L), .row 46 2 i (gIt L.rest)]) .normal (mkSt 19 [(0, .nv (.one (.own 0))), (3, .nv (.one (.own 1))), (4, iA (i + 2 : Nat))] [.ro 2 n (gIt L), .row 46 2 (i + 1) (gIt L.rest)]) :=
  code_run G0_ok (orc := ⟨[true], []⟩) (obl := [decide ((↑(i + (1 : Nat)) : Int) < (↑n : Int)) = true,
      (0 : Int) ≤ (↑(i + (1 : Nat)) : Int),
      (↑(i + (1 : Nat)) : Int) < (↑n : Int),
      Int.toNat (↑(i + (1 : Nat)) : Int) < n,
      i + (1 : Nat) ≤ (4611686018427387904 : Nat),
      (i + (1 : Nat)) * (16 : Nat) ≤ (140737488355328 : Nat),
      IntKind.wrap IntKind.i64 ((↑(i + (1 : Nat)) : Int) + (1 : Int)) = (↑(i + (2 : Nat)) : Int),
      n = n,
      ∀ (i : Nat), i < n → It.r L i = It.r L i ∧ It.x L i = It.x L i ∧ True,
      i + (1 : Nat) = i + (1 : Nat),
      ∀ (i_1 : Nat), i_1 < i + (1 : Nat) → AllT (leAts ([(nat_lit 0, Bd.same (nat_lit 0))] ++ ([((0 : Nat), Bd.same (0 : Nat))] ++ ([((1 : Nat), Bd.same (3 : Nat))] ++ ([] ++ []))) ++ ([] ++ ([] ++ ([] ++ [])) ++ ([] ++ []))) (2 : Nat) (if i_1 = i then [At.val (Value.int IntKind.u64 (It.r L (Int.toNat (↑(i + (1 : Nat)) : Int)))), At.val (Value.int IntKind.i64 (It.x L (Int.toNat (↑(i + (1 : Nat)) : Int))))] else gIt (It.rest L) i_1) (gIt (It.rest L) i_1))]) (by kernel_rfl) (.cons (by exact decide_eq_true (by omega)) (.cons (by omega) (.cons (by omega) (.cons (by assumption) (.cons (by omega) (.cons (by omega) (.cons (by exact w64 (by omega) (by omega)) (.cons (by rfl) (.cons (by (simp; done)) (.cons (by rfl) (.cons (by (refine leG_eq (fun i hi => ?_) (fun _ _ => rfl); (repeat' split) <;> first | rfl | omega | (subst_vars; rfl) | (simp_all; done))) .nil))))))))))) (Nat.le_of_ble_eq_true (by kernel_rfl))

set_option maxHeartbeats 2000000 in
theorem rs_e (n i m : Nat) (L : It) (hi : ¬ i + 1 < n) (hn : n ≤ 100000) : CodeOk Try.prog 1 (loopOf Try.f27 0) (mkSt 19 [(0, .nv (.one (.own 0))), (3, .nv (.one (.own 1))), (4, iA (i + 1 : Nat))] [.ro 2 n (gIt L), .row 46 2 m (gIt L.rest)]) (.exit 0) (mkSt 19 [(3, .nv (.one (.own 1)))] [.ro 2 n (gIt L), .row 46 2 m (gIt L.rest)]) :=
  code_run G0_ok (orc := ⟨[false], []⟩) (obl := [decide ((↑(i + (1 : Nat)) : Int) < (↑n : Int)) = false,
      n = n,
      ∀ (i : Nat), i < n → It.r L i = It.r L i ∧ It.x L i = It.x L i ∧ True,
      m = m,
      ∀ (i : Nat), i < m → It.r (It.rest L) i = It.r (It.rest L) i ∧ It.x (It.rest L) i = It.x (It.rest L) i ∧ True]) (by kernel_rfl) (.cons (by exact decide_eq_false (by omega)) (.cons (by rfl) (.cons (by (simp; done)) (.cons (by rfl) (.cons (by (simp; done)) .nil))))) (Nat.le_of_ble_eq_true (by kernel_rfl))

set_option maxHeartbeats 2000000 in
theorem fr_n (n i : Nat) (L : It) (hi : i + 1 < n) (hn : n ≤ 100000) (e : IntKind.wrap IntKind.i64 ((i : Int) + 1) = (i + 1 : Nat)) : CodeOk Try.prog 1 (loopOf Try.f28 0) (mkSt 20 [(0, .nv (.one (.own 0))), (3, .nv (.one (.own 1))), (4, iA i)] [.ro 2 n (gIt L), .row 46 2 i (gIt L)]) .normal (mkSt 20 [(0, .nv (.one (.own 0))), (3, .nv (.one (.own 1))), (4, iA (i + 1 : Nat))] [.ro 2 n (gIt L), .row 46 2 (i + 1) (gIt L)]) :=
  code_run G0_ok (orc := ⟨[true], []⟩) (obl := [decide (IntKind.wrap IntKind.i64 ((↑i : Int) + (1 : Int)) < (↑n : Int)) = true,
      (0 : Int) ≤ (↑i : Int),
      (↑i : Int) < (↑n : Int),
      Int.toNat (↑i : Int) < n,
      i + (1 : Nat) ≤ (4611686018427387904 : Nat),
      (i + (1 : Nat)) * (16 : Nat) ≤ (140737488355328 : Nat),
      IntKind.wrap IntKind.i64 ((↑i : Int) + (1 : Int)) = (↑(i + (1 : Nat)) : Int),
      n = n,
      ∀ (i : Nat), i < n → It.r L i = It.r L i ∧ It.x L i = It.x L i ∧ True,
      i + (1 : Nat) = i + (1 : Nat),
      ∀ (i_1 : Nat), i_1 < i + (1 : Nat) → AllT (leAts ([(nat_lit 0, Bd.same (nat_lit 0))] ++ ([((0 : Nat), Bd.same (0 : Nat))] ++ ([((1 : Nat), Bd.same (3 : Nat))] ++ ([] ++ []))) ++ ([] ++ ([] ++ ([] ++ [])) ++ ([] ++ []))) (2 : Nat) (if i_1 = i then [At.val (Value.int IntKind.u64 (It.r L (Int.toNat (↑i : Int)))), At.val (Value.int IntKind.i64 (It.x L (Int.toNat (↑i : Int))))] else gIt L i_1) (gIt L i_1))]) (by kernel_rfl) (.cons (by exact decide_eq_true (by rw [e]; omega)) (.cons (by omega) (.cons (by omega) (.cons (by omega) (.cons (by omega) (.cons (by omega) (.cons (by assumption) (.cons (by rfl) (.cons (by (simp; done)) (.cons (by rfl) (.cons (by (refine leG_eq (fun i hi => ?_) (fun _ _ => rfl); (repeat' split) <;> first | rfl | omega | (subst_vars; rfl) | (simp_all; done))) .nil))))))))))) (Nat.le_of_ble_eq_true (by kernel_rfl))

set_option maxHeartbeats 2000000 in
theorem fr_e (n i m : Nat) (L : It) (hi : ¬ i + 1 < n) (hi2 : i ≤ n) (hn : n ≤ 100000) (e : IntKind.wrap IntKind.i64 ((i : Int) + 1) = (i + 1 : Nat)) : CodeOk Try.prog 1 (loopOf Try.f28 0) (mkSt 20 [(0, .nv (.one (.own 0))), (3, .nv (.one (.own 1))), (4, iA i)] [.ro 2 n (gIt L), .row 46 2 m (gIt L)]) (.exit 0) (mkSt 20 [(3, .nv (.one (.own 1)))] [.ro 2 n (gIt L), .row 46 2 m (gIt L)]) :=
  code_run G0_ok (orc := ⟨[false], []⟩) (obl := [decide (IntKind.wrap IntKind.i64 ((↑i : Int) + (1 : Int)) < (↑n : Int)) = false,
      n = n,
      ∀ (i : Nat), i < n → It.r L i = It.r L i ∧ It.x L i = It.x L i ∧ True,
      m = m,
      ∀ (i : Nat), i < m → It.r L i = It.r L i ∧ It.x L i = It.x L i ∧ True]) (by kernel_rfl) (.cons (by exact decide_eq_false (by rw [e]; omega)) (.cons (by rfl) (.cons (by (simp; done)) (.cons (by rfl) (.cons (by (simp; done)) .nil))))) (Nat.le_of_ble_eq_true (by kernel_rfl))
end Go.Proofs.Ytakpokccjgoapaa
