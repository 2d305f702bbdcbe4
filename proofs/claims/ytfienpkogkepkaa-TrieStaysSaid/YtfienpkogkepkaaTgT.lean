/- Runs of Go code, as printed by a program: no condition beyond those that each states. -/
import Derived.Test.YtfienpkogkepkaaTgS
import Derived.Test.YtfienpkogkepkaaChecked
import Derived.KernelRfl
import Derived.Test.YtfienpkogkepkaaEB
namespace Go.Proofs.Ytfienpkogkepkaa
set_option linter.unusedVariables false
set_option linter.unusedSimpArgs false
set_option maxRecDepth 100000
open Go.RowKit E
attribute [local irreducible] TA enF insE dropE fE lkE puE drE atE
set_option maxHeartbeats 2000000 in
theorem pl_000 (N : RdN) (ih : RdOk false false false N) (len i : Nat) (A : Nat → Ac32) (hl : len ≤ 150) (hi : i < len) (hA : A i = ⟨false, N.a, N.n, N.x, N.k⟩) : CodeOk Try.prog 1 (loopOf Try.f4 0) (mkSt 197 [(3, .nv (.one (.ptr 1 0))), (4, .nv (.one (.own 3))), (30, .nv (.one (.own 0))), (31, iA len), (32, iA i)] [.ro 5 len (gAc A), .box 57 [.root 2 0 true, .val (.int .i64 (N.l.length : Nat))], .abs (TA none N.T), .row 46 3 N.l.length (gEn (enF N.l))]) .normal (mkSt 197 [(3, .nv (.one (.ptr 1 0))), (4, .nv (.one (.own 3))), (30, .nv (.one (.own 0))), (31, iA len), (32, iA (i + 1 : Nat))] [.ro 5 len (gAc A), .box 57 [.root 2 0 true, .val (.int .i64 (N.l'.length : Nat))], .abs (TA none N.T'), .row 46 3 N.l'.length (gEn (enF N.l'))]) :=
  code_run (Gtp000_ok N ih) (orc := ⟨[true, false, false, false, false, false, true, false, false, false, false, false, true, false, false], []⟩) (obl := [decide ((↑i : Int) < (↑len : Int)) = true,
      (0 : Int) ≤ (↑i : Int),
      (↑i : Int) < (↑len : Int),
      Int.toNat (↑i : Int) < len,
      Ac32.d (A (Int.toNat (↑i : Int))) = false,
      Ac32.a (A (Int.toNat (↑i : Int))) = RdN.a N,
      Ac32.n (A (Int.toNat (↑i : Int))) = RdN.n N,
      Ac32.x (A (Int.toNat (↑i : Int))) = RdN.x N,
      List.length (RdN.l N) = List.length (RdN.l N),
      ∀ (i : Nat), i < List.length (RdN.l N) → En.a (enF (RdN.l N) i) = En.a (enF (RdN.l N) i) ∧ En.n (enF (RdN.l N) i) = En.n (enF (RdN.l N) i) ∧ En.x (enF (RdN.l N) i) = En.x (enF (RdN.l N) i) ∧ True,
      ∀ (i : Nat), i < List.length (RdN.l' N) → (true && (true && (true && true))) = true,
      (0 : Nat) = (0 : Nat),
      Ac32.a (A (Int.toNat (↑i : Int))) = RdN.a N,
      Ac32.n (A (Int.toNat (↑i : Int))) = RdN.n N,
      Ac32.x (A (Int.toNat (↑i : Int))) = RdN.x N,
      (0 : Nat) = (0 : Nat),
      (↑(List.length (RdN.l N)) : Int) = (↑(List.length (RdN.l N)) : Int),
      TA none (RdN.T N) = TA none (RdN.T N),
      (RdN.e N != RdN.e N) = false,
      (0 : Nat) = (0 : Nat),
      Ac32.k (A (Int.toNat (↑i : Int))) = RdN.k N,
      (0 : Nat) = (0 : Nat),
      (↑(List.length (RdN.l' N)) : Int) = (↑(List.length (RdN.l' N)) : Int),
      TA none (RdN.T' N) = TA none (RdN.T' N),
      Ac32.k (A (Int.toNat (↑i : Int))) = RdN.k N,
      List.length (RdN.l' N) = List.length (RdN.l' N),
      ∀ (i : Nat), i < List.length (RdN.l' N) → En.a (enF (RdN.l' N) i) = En.a (enF (RdN.l' N) i) ∧ En.n (enF (RdN.l' N) i) = En.n (enF (RdN.l' N) i) ∧ En.x (enF (RdN.l' N) i) = En.x (enF (RdN.l' N) i) ∧ True,
      (!false == decide ((-1 : Int) ≥ (0 : Int))) = false,
      false = false,
      false = false,
      (!false) = true,
      (!(En.a en0 == (0 : Int) && (En.n en0 == (0 : Int) && true))) = false,
      (En.x en0 != (0 : Int)) = false,
      (0 : Nat) = (0 : Nat),
      Ac32.a (A (Int.toNat (↑i : Int))) = RdN.a N,
      Ac32.n (A (Int.toNat (↑i : Int))) = RdN.n N,
      (0 : Nat) = (0 : Nat),
      (↑(List.length (RdN.l' N)) : Int) = (↑(List.length (RdN.l' N)) : Int),
      TA none (RdN.T' N) = TA none (RdN.T' N),
      Ac32.a (A (Int.toNat (↑i : Int))) = RdN.a N,
      Ac32.n (A (Int.toNat (↑i : Int))) = RdN.n N,
      List.length (RdN.l' N) = List.length (RdN.l' N),
      ∀ (i : Nat), i < List.length (RdN.l' N) → En.a (enF (RdN.l' N) i) = En.a (enF (RdN.l' N) i) ∧ En.n (enF (RdN.l' N) i) = En.n (enF (RdN.l' N) i) ∧ En.x (enF (RdN.l' N) i) = En.x (enF (RdN.l' N) i) ∧ True,
      (!false == decide ((-1 : Int) ≥ (0 : Int))) = false,
      false = false,
      false = false,
      (!false) = true,
      ((0 : Int) != (0 : Int)) = false,
      (0 : Nat) = (0 : Nat),
      (↑(List.length (RdN.l' N)) : Int) = (↑(List.length (RdN.l' N)) : Int),
      ((↑(List.length (RdN.l' N)) : Int) != (↑(List.length (RdN.l' N)) : Int)) = false,
      (0 : Nat) = (0 : Nat),
      (↑len : Int) = (↑len : Int),
      IntKind.wrap IntKind.i64 ((↑i : Int) + (1 : Int)) = (↑(i + (1 : Nat)) : Int),
      len = len,
      ∀ (i : Nat), i < len → Ac32.d (A i) = Ac32.d (A i) ∧ Ac32.a (A i) = Ac32.a (A i) ∧ Ac32.n (A i) = Ac32.n (A i) ∧ Ac32.x (A i) = Ac32.x (A i) ∧ Ac32.k (A i) = Ac32.k (A i) ∧ True,
      (0 : Nat) = (0 : Nat),
      (↑(List.length (RdN.l' N)) : Int) = (↑(List.length (RdN.l' N)) : Int),
      TA none (RdN.T' N) = TA none (RdN.T' N),
      List.length (RdN.l' N) = List.length (RdN.l' N),
      ∀ (i : Nat), i < List.length (RdN.l' N) → En.a (enF (RdN.l' N) i) = En.a (enF (RdN.l' N) i) ∧ En.n (enF (RdN.l' N) i) = En.n (enF (RdN.l' N) i) ∧ En.x (enF (RdN.l' N) i) = En.x (enF (RdN.l' N) i) ∧ True]) (by kernel_rfl) (.cons (by exact decide_eq_true (by omega)) (.cons (by (simp; done)) (.cons (by omega) (.cons (by assumption) (.cons (by (rw [Int.toNat_natCast, hA])) (.cons (by (rw [Int.toNat_natCast, hA])) (.cons (by (rw [Int.toNat_natCast, hA])) (.cons (by (rw [Int.toNat_natCast, hA])) (.cons (by rfl) (.cons (by (simp; done)) (.cons (by (intro _ _; rfl)) (.cons (by rfl) (.cons (by (rw [Int.toNat_natCast, hA])) (.cons (by (rw [Int.toNat_natCast, hA])) (.cons (by (rw [Int.toNat_natCast, hA])) (.cons (by rfl) (.cons (by rfl) (.cons (by rfl) (.cons (by (simp; done)) (.cons (by rfl) (.cons (by (rw [Int.toNat_natCast, hA])) (.cons (by rfl) (.cons (by rfl) (.cons (by rfl) (.cons (by (rw [Int.toNat_natCast, hA])) (.cons (by rfl) (.cons (by (simp; done)) (.cons (by rfl) (.cons (by rfl) (.cons (by rfl) (.cons (by rfl) (.cons (by rfl) (.cons (by rfl) (.cons (by rfl) (.cons (by (rw [Int.toNat_natCast, hA])) (.cons (by (rw [Int.toNat_natCast, hA])) (.cons (by rfl) (.cons (by rfl) (.cons (by rfl) (.cons (by (rw [Int.toNat_natCast, hA])) (.cons (by (rw [Int.toNat_natCast, hA])) (.cons (by rfl) (.cons (by (simp; done)) (.cons (by rfl) (.cons (by rfl) (.cons (by rfl) (.cons (by rfl) (.cons (by rfl) (.cons (by rfl) (.cons (by rfl) (.cons (by (simp; done)) (.cons (by rfl) (.cons (by rfl) (.cons (by exact w64 (by omega) (by omega)) (.cons (by rfl) (.cons (by (simp; done)) (.cons (by rfl) (.cons (by rfl) (.cons (by rfl) (.cons (by rfl) (.cons (by (simp; done)) .nil))))))))))))))))))))))))))))))))))))))))))))))))))))))))))))) (Nat.le_of_ble_eq_true (by kernel_rfl))

set_option maxHeartbeats 2000000 in
theorem pl_001 (N : RdN) (ih : RdOk false false true N) (len i : Nat) (A : Nat → Ac32) (hl : len ≤ 150) (hi : i < len) (hA : A i = ⟨false, N.a, N.n, N.x, N.k⟩) (g1 : N.gj < N.l'.length) (g2 : (enF N.l' N.gj).x = N.gx) : CodeOk Try.prog 1 (loopOf Try.f4 0) (mkSt 197 [(3, .nv (.one (.ptr 1 0))), (4, .nv (.one (.own 3))), (30, .nv (.one (.own 0))), (31, iA len), (32, iA i)] [.ro 5 len (gAc A), .box 57 [.root 2 0 true, .val (.int .i64 (N.l.length : Nat))], .abs (TA none N.T), .row 46 3 N.l.length (gEn (enF N.l))]) .normal (mkSt 197 [(3, .nv (.one (.ptr 1 0))), (4, .nv (.one (.own 3))), (30, .nv (.one (.own 0))), (31, iA len), (32, iA (i + 1 : Nat))] [.ro 5 len (gAc A), .box 57 [.root 2 0 true, .val (.int .i64 (N.l'.length : Nat))], .abs (TA none N.T'), .row 46 3 N.l'.length (gEn (enF N.l'))]) :=
  code_run (Gtp001_ok N ih) (orc := ⟨[true, false, false, false, false, false, true, false, false, false, true, false, false, false, false], []⟩) (obl := [decide ((↑i : Int) < (↑len : Int)) = true,
      (0 : Int) ≤ (↑i : Int),
      (↑i : Int) < (↑len : Int),
      Int.toNat (↑i : Int) < len,
      Ac32.d (A (Int.toNat (↑i : Int))) = false,
      Ac32.a (A (Int.toNat (↑i : Int))) = RdN.a N,
      Ac32.n (A (Int.toNat (↑i : Int))) = RdN.n N,
      Ac32.x (A (Int.toNat (↑i : Int))) = RdN.x N,
      List.length (RdN.l N) = List.length (RdN.l N),
      ∀ (i : Nat), i < List.length (RdN.l N) → En.a (enF (RdN.l N) i) = En.a (enF (RdN.l N) i) ∧ En.n (enF (RdN.l N) i) = En.n (enF (RdN.l N) i) ∧ En.x (enF (RdN.l N) i) = En.x (enF (RdN.l N) i) ∧ True,
      ∀ (i : Nat), i < List.length (RdN.l' N) → (true && (true && (true && true))) = true,
      (0 : Nat) = (0 : Nat),
      Ac32.a (A (Int.toNat (↑i : Int))) = RdN.a N,
      Ac32.n (A (Int.toNat (↑i : Int))) = RdN.n N,
      Ac32.x (A (Int.toNat (↑i : Int))) = RdN.x N,
      (0 : Nat) = (0 : Nat),
      (↑(List.length (RdN.l N)) : Int) = (↑(List.length (RdN.l N)) : Int),
      TA none (RdN.T N) = TA none (RdN.T N),
      (RdN.e N != RdN.e N) = false,
      (0 : Nat) = (0 : Nat),
      Ac32.k (A (Int.toNat (↑i : Int))) = RdN.k N,
      (0 : Nat) = (0 : Nat),
      (↑(List.length (RdN.l' N)) : Int) = (↑(List.length (RdN.l' N)) : Int),
      TA none (RdN.T' N) = TA none (RdN.T' N),
      Ac32.k (A (Int.toNat (↑i : Int))) = RdN.k N,
      List.length (RdN.l' N) = List.length (RdN.l' N),
      ∀ (i : Nat), i < List.length (RdN.l' N) → En.a (enF (RdN.l' N) i) = En.a (enF (RdN.l' N) i) ∧ En.n (enF (RdN.l' N) i) = En.n (enF (RdN.l' N) i) ∧ En.x (enF (RdN.l' N) i) = En.x (enF (RdN.l' N) i) ∧ True,
      (!false == decide ((-1 : Int) ≥ (0 : Int))) = false,
      false = false,
      false = false,
      (!false) = true,
      (!(En.a en0 == (0 : Int) && (En.n en0 == (0 : Int) && true))) = false,
      (En.x en0 != (0 : Int)) = false,
      (0 : Nat) = (0 : Nat),
      Ac32.a (A (Int.toNat (↑i : Int))) = RdN.a N,
      Ac32.n (A (Int.toNat (↑i : Int))) = RdN.n N,
      (0 : Nat) = (0 : Nat),
      (↑(List.length (RdN.l' N)) : Int) = (↑(List.length (RdN.l' N)) : Int),
      TA none (RdN.T' N) = TA none (RdN.T' N),
      Ac32.a (A (Int.toNat (↑i : Int))) = RdN.a N,
      Ac32.n (A (Int.toNat (↑i : Int))) = RdN.n N,
      List.length (RdN.l' N) = List.length (RdN.l' N),
      ∀ (i : Nat), i < List.length (RdN.l' N) → En.a (enF (RdN.l' N) i) = En.a (enF (RdN.l' N) i) ∧ En.n (enF (RdN.l' N) i) = En.n (enF (RdN.l' N) i) ∧ En.x (enF (RdN.l' N) i) = En.x (enF (RdN.l' N) i) ∧ True,
      (!true == decide ((↑(RdN.gj N) : Int) ≥ (0 : Int))) = false,
      true = true,
      (0 : Int) ≤ (↑(RdN.gj N) : Int),
      (↑(RdN.gj N) : Int) < (↑(List.length (RdN.l' N)) : Int),
      Int.toNat (↑(RdN.gj N) : Int) < List.length (RdN.l' N),
      (RdN.gx N != En.x (enF (RdN.l' N) (Int.toNat (↑(RdN.gj N) : Int)))) = false,
      (!true) = false,
      false = false,
      (0 : Nat) = (0 : Nat),
      (↑(List.length (RdN.l' N)) : Int) = (↑(List.length (RdN.l' N)) : Int),
      ((↑(List.length (RdN.l' N)) : Int) != (↑(List.length (RdN.l' N)) : Int)) = false,
      (0 : Nat) = (0 : Nat),
      (↑len : Int) = (↑len : Int),
      IntKind.wrap IntKind.i64 ((↑i : Int) + (1 : Int)) = (↑(i + (1 : Nat)) : Int),
      len = len,
      ∀ (i : Nat), i < len → Ac32.d (A i) = Ac32.d (A i) ∧ Ac32.a (A i) = Ac32.a (A i) ∧ Ac32.n (A i) = Ac32.n (A i) ∧ Ac32.x (A i) = Ac32.x (A i) ∧ Ac32.k (A i) = Ac32.k (A i) ∧ True,
      (0 : Nat) = (0 : Nat),
      (↑(List.length (RdN.l' N)) : Int) = (↑(List.length (RdN.l' N)) : Int),
      TA none (RdN.T' N) = TA none (RdN.T' N),
      List.length (RdN.l' N) = List.length (RdN.l' N),
      ∀ (i : Nat), i < List.length (RdN.l' N) → En.a (enF (RdN.l' N) i) = En.a (enF (RdN.l' N) i) ∧ En.n (enF (RdN.l' N) i) = En.n (enF (RdN.l' N) i) ∧ En.x (enF (RdN.l' N) i) = En.x (enF (RdN.l' N) i) ∧ True]) (by kernel_rfl) (.cons (by exact decide_eq_true (by omega)) (.cons (by (simp; done)) (.cons (by omega) (.cons (by assumption) (.cons (by (rw [Int.toNat_natCast, hA])) (.cons (by (rw [Int.toNat_natCast, hA])) (.cons (by (rw [Int.toNat_natCast, hA])) (.cons (by (rw [Int.toNat_natCast, hA])) (.cons (by rfl) (.cons (by (simp only [Int.toNat_natCast, g2]; simp)) (.cons (by (intro _ _; rfl)) (.cons (by rfl) (.cons (by (rw [Int.toNat_natCast, hA])) (.cons (by (rw [Int.toNat_natCast, hA])) (.cons (by (rw [Int.toNat_natCast, hA])) (.cons (by rfl) (.cons (by rfl) (.cons (by rfl) (.cons (by (simp; done)) (.cons (by rfl) (.cons (by (rw [Int.toNat_natCast, hA])) (.cons (by rfl) (.cons (by rfl) (.cons (by rfl) (.cons (by (rw [Int.toNat_natCast, hA])) (.cons (by rfl) (.cons (by (simp only [Int.toNat_natCast, g2]; simp)) (.cons (by rfl) (.cons (by rfl) (.cons (by rfl) (.cons (by rfl) (.cons (by rfl) (.cons (by rfl) (.cons (by rfl) (.cons (by (rw [Int.toNat_natCast, hA])) (.cons (by (rw [Int.toNat_natCast, hA])) (.cons (by rfl) (.cons (by rfl) (.cons (by rfl) (.cons (by (rw [Int.toNat_natCast, hA])) (.cons (by (rw [Int.toNat_natCast, hA])) (.cons (by rfl) (.cons (by (simp only [Int.toNat_natCast, g2]; simp)) (.cons (by rfl) (.cons (by rfl) (.cons (by (simp; done)) (.cons (by omega) (.cons (by assumption) (.cons (by (simp only [Int.toNat_natCast, g2]; simp)) (.cons (by rfl) (.cons (by rfl) (.cons (by rfl) (.cons (by rfl) (.cons (by (simp; done)) (.cons (by rfl) (.cons (by rfl) (.cons (by exact w64 (by omega) (by omega)) (.cons (by rfl) (.cons (by (simp only [Int.toNat_natCast, g2]; simp)) (.cons (by rfl) (.cons (by rfl) (.cons (by rfl) (.cons (by rfl) (.cons (by (simp only [Int.toNat_natCast, g2]; simp)) .nil)))))))))))))))))))))))))))))))))))))))))))))))))))))))))))))))) (Nat.le_of_ble_eq_true (by kernel_rfl))

set_option maxHeartbeats 2000000 in
theorem pl_010 (N : RdN) (ih : RdOk false true false N) (len i : Nat) (A : Nat → Ac32) (hl : len ≤ 150) (hi : i < len) (hA : A i = ⟨false, N.a, N.n, N.x, N.k⟩) (f1 : N.fj < N.l'.length) (f2 : enF N.l' N.fj = N.f) : CodeOk Try.prog 1 (loopOf Try.f4 0) (mkSt 197 [(3, .nv (.one (.ptr 1 0))), (4, .nv (.one (.own 3))), (30, .nv (.one (.own 0))), (31, iA len), (32, iA i)] [.ro 5 len (gAc A), .box 57 [.root 2 0 true, .val (.int .i64 (N.l.length : Nat))], .abs (TA none N.T), .row 46 3 N.l.length (gEn (enF N.l))]) .normal (mkSt 197 [(3, .nv (.one (.ptr 1 0))), (4, .nv (.one (.own 3))), (30, .nv (.one (.own 0))), (31, iA len), (32, iA (i + 1 : Nat))] [.ro 5 len (gAc A), .box 57 [.root 2 0 true, .val (.int .i64 (N.l'.length : Nat))], .abs (TA none N.T'), .row 46 3 N.l'.length (gEn (enF N.l'))]) :=
  code_run (Gtp010_ok N ih) (orc := ⟨[true, false, false, false, true, false, false, false, false, false, false, false, true, false, false], []⟩) (obl := [decide ((↑i : Int) < (↑len : Int)) = true,
      (0 : Int) ≤ (↑i : Int),
      (↑i : Int) < (↑len : Int),
      Int.toNat (↑i : Int) < len,
      Ac32.d (A (Int.toNat (↑i : Int))) = false,
      Ac32.a (A (Int.toNat (↑i : Int))) = RdN.a N,
      Ac32.n (A (Int.toNat (↑i : Int))) = RdN.n N,
      Ac32.x (A (Int.toNat (↑i : Int))) = RdN.x N,
      List.length (RdN.l N) = List.length (RdN.l N),
      ∀ (i : Nat), i < List.length (RdN.l N) → En.a (enF (RdN.l N) i) = En.a (enF (RdN.l N) i) ∧ En.n (enF (RdN.l N) i) = En.n (enF (RdN.l N) i) ∧ En.x (enF (RdN.l N) i) = En.x (enF (RdN.l N) i) ∧ True,
      ∀ (i : Nat), i < List.length (RdN.l' N) → (true && (true && (true && true))) = true,
      (0 : Nat) = (0 : Nat),
      Ac32.a (A (Int.toNat (↑i : Int))) = RdN.a N,
      Ac32.n (A (Int.toNat (↑i : Int))) = RdN.n N,
      Ac32.x (A (Int.toNat (↑i : Int))) = RdN.x N,
      (0 : Nat) = (0 : Nat),
      (↑(List.length (RdN.l N)) : Int) = (↑(List.length (RdN.l N)) : Int),
      TA none (RdN.T N) = TA none (RdN.T N),
      (RdN.e N != RdN.e N) = false,
      (0 : Nat) = (0 : Nat),
      Ac32.k (A (Int.toNat (↑i : Int))) = RdN.k N,
      (0 : Nat) = (0 : Nat),
      (↑(List.length (RdN.l' N)) : Int) = (↑(List.length (RdN.l' N)) : Int),
      TA none (RdN.T' N) = TA none (RdN.T' N),
      Ac32.k (A (Int.toNat (↑i : Int))) = RdN.k N,
      List.length (RdN.l' N) = List.length (RdN.l' N),
      ∀ (i : Nat), i < List.length (RdN.l' N) → En.a (enF (RdN.l' N) i) = En.a (enF (RdN.l' N) i) ∧ En.n (enF (RdN.l' N) i) = En.n (enF (RdN.l' N) i) ∧ En.x (enF (RdN.l' N) i) = En.x (enF (RdN.l' N) i) ∧ True,
      (!true == decide ((↑(RdN.fj N) : Int) ≥ (0 : Int))) = false,
      true = true,
      (0 : Int) ≤ (↑(RdN.fj N) : Int),
      (↑(RdN.fj N) : Int) < (↑(List.length (RdN.l' N)) : Int),
      Int.toNat (↑(RdN.fj N) : Int) < List.length (RdN.l' N),
      (!(En.a (RdN.f N) == En.a (enF (RdN.l' N) (Int.toNat (↑(RdN.fj N) : Int))) && (En.n (RdN.f N) == En.n (enF (RdN.l' N) (Int.toNat (↑(RdN.fj N) : Int))) && true))) = false,
      (0 : Int) ≤ (↑(RdN.fj N) : Int),
      (↑(RdN.fj N) : Int) < (↑(List.length (RdN.l' N)) : Int),
      Int.toNat (↑(RdN.fj N) : Int) < List.length (RdN.l' N),
      (En.x (RdN.f N) != En.x (enF (RdN.l' N) (Int.toNat (↑(RdN.fj N) : Int)))) = false,
      (!true) = false,
      false = false,
      (0 : Nat) = (0 : Nat),
      Ac32.a (A (Int.toNat (↑i : Int))) = RdN.a N,
      Ac32.n (A (Int.toNat (↑i : Int))) = RdN.n N,
      (0 : Nat) = (0 : Nat),
      (↑(List.length (RdN.l' N)) : Int) = (↑(List.length (RdN.l' N)) : Int),
      TA none (RdN.T' N) = TA none (RdN.T' N),
      Ac32.a (A (Int.toNat (↑i : Int))) = RdN.a N,
      Ac32.n (A (Int.toNat (↑i : Int))) = RdN.n N,
      List.length (RdN.l' N) = List.length (RdN.l' N),
      ∀ (i : Nat), i < List.length (RdN.l' N) → En.a (enF (RdN.l' N) i) = En.a (enF (RdN.l' N) i) ∧ En.n (enF (RdN.l' N) i) = En.n (enF (RdN.l' N) i) ∧ En.x (enF (RdN.l' N) i) = En.x (enF (RdN.l' N) i) ∧ True,
      (!false == decide ((-1 : Int) ≥ (0 : Int))) = false,
      false = false,
      false = false,
      (!false) = true,
      ((0 : Int) != (0 : Int)) = false,
      (0 : Nat) = (0 : Nat),
      (↑(List.length (RdN.l' N)) : Int) = (↑(List.length (RdN.l' N)) : Int),
      ((↑(List.length (RdN.l' N)) : Int) != (↑(List.length (RdN.l' N)) : Int)) = false,
      (0 : Nat) = (0 : Nat),
      (↑len : Int) = (↑len : Int),
      IntKind.wrap IntKind.i64 ((↑i : Int) + (1 : Int)) = (↑(i + (1 : Nat)) : Int),
      len = len,
      ∀ (i : Nat), i < len → Ac32.d (A i) = Ac32.d (A i) ∧ Ac32.a (A i) = Ac32.a (A i) ∧ Ac32.n (A i) = Ac32.n (A i) ∧ Ac32.x (A i) = Ac32.x (A i) ∧ Ac32.k (A i) = Ac32.k (A i) ∧ True,
      (0 : Nat) = (0 : Nat),
      (↑(List.length (RdN.l' N)) : Int) = (↑(List.length (RdN.l' N)) : Int),
      TA none (RdN.T' N) = TA none (RdN.T' N),
      List.length (RdN.l' N) = List.length (RdN.l' N),
      ∀ (i : Nat), i < List.length (RdN.l' N) → En.a (enF (RdN.l' N) i) = En.a (enF (RdN.l' N) i) ∧ En.n (enF (RdN.l' N) i) = En.n (enF (RdN.l' N) i) ∧ En.x (enF (RdN.l' N) i) = En.x (enF (RdN.l' N) i) ∧ True]) (by kernel_rfl) (.cons (by exact decide_eq_true (by omega)) (.cons (by (simp; done)) (.cons (by omega) (.cons (by assumption) (.cons (by (rw [Int.toNat_natCast, hA])) (.cons (by (rw [Int.toNat_natCast, hA])) (.cons (by (rw [Int.toNat_natCast, hA])) (.cons (by (rw [Int.toNat_natCast, hA])) (.cons (by rfl) (.cons (by (simp only [Int.toNat_natCast, f2]; simp)) (.cons (by (intro _ _; rfl)) (.cons (by rfl) (.cons (by (rw [Int.toNat_natCast, hA])) (.cons (by (rw [Int.toNat_natCast, hA])) (.cons (by (rw [Int.toNat_natCast, hA])) (.cons (by rfl) (.cons (by rfl) (.cons (by rfl) (.cons (by (simp; done)) (.cons (by rfl) (.cons (by (rw [Int.toNat_natCast, hA])) (.cons (by rfl) (.cons (by rfl) (.cons (by rfl) (.cons (by (rw [Int.toNat_natCast, hA])) (.cons (by rfl) (.cons (by (simp only [Int.toNat_natCast, f2]; simp)) (.cons (by rfl) (.cons (by rfl) (.cons (by (simp; done)) (.cons (by omega) (.cons (by assumption) (.cons (by (simp only [Int.toNat_natCast, f2]; simp)) (.cons (by (simp; done)) (.cons (by omega) (.cons (by assumption) (.cons (by (simp only [Int.toNat_natCast, f2]; simp)) (.cons (by rfl) (.cons (by rfl) (.cons (by rfl) (.cons (by (rw [Int.toNat_natCast, hA])) (.cons (by (rw [Int.toNat_natCast, hA])) (.cons (by rfl) (.cons (by rfl) (.cons (by rfl) (.cons (by (rw [Int.toNat_natCast, hA])) (.cons (by (rw [Int.toNat_natCast, hA])) (.cons (by rfl) (.cons (by (simp only [Int.toNat_natCast, f2]; simp)) (.cons (by rfl) (.cons (by rfl) (.cons (by rfl) (.cons (by rfl) (.cons (by rfl) (.cons (by rfl) (.cons (by rfl) (.cons (by (simp; done)) (.cons (by rfl) (.cons (by rfl) (.cons (by exact w64 (by omega) (by omega)) (.cons (by rfl) (.cons (by (simp only [Int.toNat_natCast, f2]; simp)) (.cons (by rfl) (.cons (by rfl) (.cons (by rfl) (.cons (by rfl) (.cons (by (simp only [Int.toNat_natCast, f2]; simp)) .nil))))))))))))))))))))))))))))))))))))))))))))))))))))))))))))))))))) (Nat.le_of_ble_eq_true (by kernel_rfl))

set_option maxHeartbeats 2000000 in
theorem pl_011 (N : RdN) (ih : RdOk false true true N) (len i : Nat) (A : Nat → Ac32) (hl : len ≤ 150) (hi : i < len) (hA : A i = ⟨false, N.a, N.n, N.x, N.k⟩) (f1 : N.fj < N.l'.length) (f2 : enF N.l' N.fj = N.f) (g1 : N.gj < N.l'.length) (g2 : (enF N.l' N.gj).x = N.gx) : CodeOk Try.prog 1 (loopOf Try.f4 0) (mkSt 197 [(3, .nv (.one (.ptr 1 0))), (4, .nv (.one (.own 3))), (30, .nv (.one (.own 0))), (31, iA len), (32, iA i)] [.ro 5 len (gAc A), .box 57 [.root 2 0 true, .val (.int .i64 (N.l.length : Nat))], .abs (TA none N.T), .row 46 3 N.l.length (gEn (enF N.l))]) .normal (mkSt 197 [(3, .nv (.one (.ptr 1 0))), (4, .nv (.one (.own 3))), (30, .nv (.one (.own 0))), (31, iA len), (32, iA (i + 1 : Nat))] [.ro 5 len (gAc A), .box 57 [.root 2 0 true, .val (.int .i64 (N.l'.length : Nat))], .abs (TA none N.T'), .row 46 3 N.l'.length (gEn (enF N.l'))]) :=
  code_run (Gtp011_ok N ih) (orc := ⟨[true, false, false, false, true, false, false, false, false, false, true, false, false, false, false], []⟩) (obl := [decide ((↑i : Int) < (↑len : Int)) = true,
      (0 : Int) ≤ (↑i : Int),
      (↑i : Int) < (↑len : Int),
      Int.toNat (↑i : Int) < len,
      Ac32.d (A (Int.toNat (↑i : Int))) = false,
      Ac32.a (A (Int.toNat (↑i : Int))) = RdN.a N,
      Ac32.n (A (Int.toNat (↑i : Int))) = RdN.n N,
      Ac32.x (A (Int.toNat (↑i : Int))) = RdN.x N,
      List.length (RdN.l N) = List.length (RdN.l N),
      ∀ (i : Nat), i < List.length (RdN.l N) → En.a (enF (RdN.l N) i) = En.a (enF (RdN.l N) i) ∧ En.n (enF (RdN.l N) i) = En.n (enF (RdN.l N) i) ∧ En.x (enF (RdN.l N) i) = En.x (enF (RdN.l N) i) ∧ True,
      ∀ (i : Nat), i < List.length (RdN.l' N) → (true && (true && (true && true))) = true,
      (0 : Nat) = (0 : Nat),
      Ac32.a (A (Int.toNat (↑i : Int))) = RdN.a N,
      Ac32.n (A (Int.toNat (↑i : Int))) = RdN.n N,
      Ac32.x (A (Int.toNat (↑i : Int))) = RdN.x N,
      (0 : Nat) = (0 : Nat),
      (↑(List.length (RdN.l N)) : Int) = (↑(List.length (RdN.l N)) : Int),
      TA none (RdN.T N) = TA none (RdN.T N),
      (RdN.e N != RdN.e N) = false,
      (0 : Nat) = (0 : Nat),
      Ac32.k (A (Int.toNat (↑i : Int))) = RdN.k N,
      (0 : Nat) = (0 : Nat),
      (↑(List.length (RdN.l' N)) : Int) = (↑(List.length (RdN.l' N)) : Int),
      TA none (RdN.T' N) = TA none (RdN.T' N),
      Ac32.k (A (Int.toNat (↑i : Int))) = RdN.k N,
      List.length (RdN.l' N) = List.length (RdN.l' N),
      ∀ (i : Nat), i < List.length (RdN.l' N) → En.a (enF (RdN.l' N) i) = En.a (enF (RdN.l' N) i) ∧ En.n (enF (RdN.l' N) i) = En.n (enF (RdN.l' N) i) ∧ En.x (enF (RdN.l' N) i) = En.x (enF (RdN.l' N) i) ∧ True,
      (!true == decide ((↑(RdN.fj N) : Int) ≥ (0 : Int))) = false,
      true = true,
      (0 : Int) ≤ (↑(RdN.fj N) : Int),
      (↑(RdN.fj N) : Int) < (↑(List.length (RdN.l' N)) : Int),
      Int.toNat (↑(RdN.fj N) : Int) < List.length (RdN.l' N),
      (!(En.a (RdN.f N) == En.a (enF (RdN.l' N) (Int.toNat (↑(RdN.fj N) : Int))) && (En.n (RdN.f N) == En.n (enF (RdN.l' N) (Int.toNat (↑(RdN.fj N) : Int))) && true))) = false,
      (0 : Int) ≤ (↑(RdN.fj N) : Int),
      (↑(RdN.fj N) : Int) < (↑(List.length (RdN.l' N)) : Int),
      Int.toNat (↑(RdN.fj N) : Int) < List.length (RdN.l' N),
      (En.x (RdN.f N) != En.x (enF (RdN.l' N) (Int.toNat (↑(RdN.fj N) : Int)))) = false,
      (!true) = false,
      false = false,
      (0 : Nat) = (0 : Nat),
      Ac32.a (A (Int.toNat (↑i : Int))) = RdN.a N,
      Ac32.n (A (Int.toNat (↑i : Int))) = RdN.n N,
      (0 : Nat) = (0 : Nat),
      (↑(List.length (RdN.l' N)) : Int) = (↑(List.length (RdN.l' N)) : Int),
      TA none (RdN.T' N) = TA none (RdN.T' N),
      Ac32.a (A (Int.toNat (↑i : Int))) = RdN.a N,
      Ac32.n (A (Int.toNat (↑i : Int))) = RdN.n N,
      List.length (RdN.l' N) = List.length (RdN.l' N),
      ∀ (i : Nat), i < List.length (RdN.l' N) → En.a (enF (RdN.l' N) i) = En.a (enF (RdN.l' N) i) ∧ En.n (enF (RdN.l' N) i) = En.n (enF (RdN.l' N) i) ∧ En.x (enF (RdN.l' N) i) = En.x (enF (RdN.l' N) i) ∧ True,
      (!true == decide ((↑(RdN.gj N) : Int) ≥ (0 : Int))) = false,
      true = true,
      (0 : Int) ≤ (↑(RdN.gj N) : Int),
      (↑(RdN.gj N) : Int) < (↑(List.length (RdN.l' N)) : Int),
      Int.toNat (↑(RdN.gj N) : Int) < List.length (RdN.l' N),
      (RdN.gx N != En.x (enF (RdN.l' N) (Int.toNat (↑(RdN.gj N) : Int)))) = false,
      (!true) = false,
      false = false,
      (0 : Nat) = (0 : Nat),
      (↑(List.length (RdN.l' N)) : Int) = (↑(List.length (RdN.l' N)) : Int),
      ((↑(List.length (RdN.l' N)) : Int) != (↑(List.length (RdN.l' N)) : Int)) = false,
      (0 : Nat) = (0 : Nat),
      (↑len : Int) = (↑len : Int),
      IntKind.wrap IntKind.i64 ((↑i : Int) + (1 : Int)) = (↑(i + (1 : Nat)) : Int),
      len = len,
      ∀ (i : Nat), i < len → Ac32.d (A i) = Ac32.d (A i) ∧ Ac32.a (A i) = Ac32.a (A i) ∧ Ac32.n (A i) = Ac32.n (A i) ∧ Ac32.x (A i) = Ac32.x (A i) ∧ Ac32.k (A i) = Ac32.k (A i) ∧ True,
      (0 : Nat) = (0 : Nat),
      (↑(List.length (RdN.l' N)) : Int) = (↑(List.length (RdN.l' N)) : Int),
      TA none (RdN.T' N) = TA none (RdN.T' N),
      List.length (RdN.l' N) = List.length (RdN.l' N),
      ∀ (i : Nat), i < List.length (RdN.l' N) → En.a (enF (RdN.l' N) i) = En.a (enF (RdN.l' N) i) ∧ En.n (enF (RdN.l' N) i) = En.n (enF (RdN.l' N) i) ∧ En.x (enF (RdN.l' N) i) = En.x (enF (RdN.l' N) i) ∧ True]) (by kernel_rfl) (.cons (by exact decide_eq_true (by omega)) (.cons (by (simp; done)) (.cons (by omega) (.cons (by assumption) (.cons (by (rw [Int.toNat_natCast, hA])) (.cons (by (rw [Int.toNat_natCast, hA])) (.cons (by (rw [Int.toNat_natCast, hA])) (.cons (by (rw [Int.toNat_natCast, hA])) (.cons (by rfl) (.cons (by (simp only [Int.toNat_natCast, f2]; simp)) (.cons (by (intro _ _; rfl)) (.cons (by rfl) (.cons (by (rw [Int.toNat_natCast, hA])) (.cons (by (rw [Int.toNat_natCast, hA])) (.cons (by (rw [Int.toNat_natCast, hA])) (.cons (by rfl) (.cons (by rfl) (.cons (by rfl) (.cons (by (simp; done)) (.cons (by rfl) (.cons (by (rw [Int.toNat_natCast, hA])) (.cons (by rfl) (.cons (by rfl) (.cons (by rfl) (.cons (by (rw [Int.toNat_natCast, hA])) (.cons (by rfl) (.cons (by (simp only [Int.toNat_natCast, f2]; simp)) (.cons (by rfl) (.cons (by rfl) (.cons (by (simp; done)) (.cons (by omega) (.cons (by assumption) (.cons (by (simp only [Int.toNat_natCast, f2]; simp)) (.cons (by (simp; done)) (.cons (by omega) (.cons (by assumption) (.cons (by (simp only [Int.toNat_natCast, f2]; simp)) (.cons (by rfl) (.cons (by rfl) (.cons (by rfl) (.cons (by (rw [Int.toNat_natCast, hA])) (.cons (by (rw [Int.toNat_natCast, hA])) (.cons (by rfl) (.cons (by rfl) (.cons (by rfl) (.cons (by (rw [Int.toNat_natCast, hA])) (.cons (by (rw [Int.toNat_natCast, hA])) (.cons (by rfl) (.cons (by (simp only [Int.toNat_natCast, f2]; simp)) (.cons (by rfl) (.cons (by rfl) (.cons (by (simp; done)) (.cons (by omega) (.cons (by assumption) (.cons (by (simp only [Int.toNat_natCast, g2]; simp)) (.cons (by rfl) (.cons (by rfl) (.cons (by rfl) (.cons (by rfl) (.cons (by (simp; done)) (.cons (by rfl) (.cons (by rfl) (.cons (by exact w64 (by omega) (by omega)) (.cons (by rfl) (.cons (by (simp only [Int.toNat_natCast, f2]; simp)) (.cons (by rfl) (.cons (by rfl) (.cons (by rfl) (.cons (by rfl) (.cons (by (simp only [Int.toNat_natCast, f2]; simp)) .nil)))))))))))))))))))))))))))))))))))))))))))))))))))))))))))))))))))))) (Nat.le_of_ble_eq_true (by kernel_rfl))

set_option maxHeartbeats 2000000 in
theorem pl_100 (N : RdN) (ih : RdOk true false false N) (len i : Nat) (A : Nat → Ac32) (hl : len ≤ 150) (hi : i < len) (hA : A i = ⟨true, N.a, N.n, N.x, N.k⟩) : CodeOk Try.prog 1 (loopOf Try.f4 0) (mkSt 197 [(3, .nv (.one (.ptr 1 0))), (4, .nv (.one (.own 3))), (30, .nv (.one (.own 0))), (31, iA len), (32, iA i)] [.ro 5 len (gAc A), .box 57 [.root 2 0 true, .val (.int .i64 (N.l.length : Nat))], .abs (TA none N.T), .row 46 3 N.l.length (gEn (enF N.l))]) .normal (mkSt 197 [(3, .nv (.one (.ptr 1 0))), (4, .nv (.one (.own 3))), (30, .nv (.one (.own 0))), (31, iA len), (32, iA (i + 1 : Nat))] [.ro 5 len (gAc A), .box 57 [.root 2 0 true, .val (.int .i64 (N.l'.length : Nat))], .abs (TA none N.T'), .row 46 3 N.l'.length (gEn (enF N.l'))]) :=
  code_run (Gtp100_ok N ih) (orc := ⟨[true, true, false, false, false, false, false, true, false, false, false, false, false, true, false, false], []⟩) (obl := [decide ((↑i : Int) < (↑len : Int)) = true,
      (0 : Int) ≤ (↑i : Int),
      (↑i : Int) < (↑len : Int),
      Int.toNat (↑i : Int) < len,
      Ac32.d (A (Int.toNat (↑i : Int))) = true,
      (0 : Nat) = (0 : Nat),
      Ac32.a (A (Int.toNat (↑i : Int))) = RdN.a N,
      Ac32.n (A (Int.toNat (↑i : Int))) = RdN.n N,
      (0 : Nat) = (0 : Nat),
      (↑(List.length (RdN.l N)) : Int) = (↑(List.length (RdN.l N)) : Int),
      TA none (RdN.T N) = TA none (RdN.T N),
      Ac32.a (A (Int.toNat (↑i : Int))) = RdN.a N,
      Ac32.n (A (Int.toNat (↑i : Int))) = RdN.n N,
      List.length (RdN.l N) = List.length (RdN.l N),
      ∀ (i : Nat), i < List.length (RdN.l N) → En.a (enF (RdN.l N) i) = En.a (enF (RdN.l N) i) ∧ En.n (enF (RdN.l N) i) = En.n (enF (RdN.l N) i) ∧ En.x (enF (RdN.l N) i) = En.x (enF (RdN.l N) i) ∧ True,
      ∀ (i : Nat), i < List.length (RdN.l' N) → (true && (true && (true && true))) = true,
      (RdN.x1 N != RdN.x1 N) = false,
      (!RdN.b1 N == RdN.b1 N) = false,
      (0 : Nat) = (0 : Nat),
      Ac32.k (A (Int.toNat (↑i : Int))) = RdN.k N,
      (0 : Nat) = (0 : Nat),
      (↑(List.length (RdN.l' N)) : Int) = (↑(List.length (RdN.l' N)) : Int),
      TA none (RdN.T' N) = TA none (RdN.T' N),
      Ac32.k (A (Int.toNat (↑i : Int))) = RdN.k N,
      List.length (RdN.l' N) = List.length (RdN.l' N),
      ∀ (i : Nat), i < List.length (RdN.l' N) → En.a (enF (RdN.l' N) i) = En.a (enF (RdN.l' N) i) ∧ En.n (enF (RdN.l' N) i) = En.n (enF (RdN.l' N) i) ∧ En.x (enF (RdN.l' N) i) = En.x (enF (RdN.l' N) i) ∧ True,
      (!false == decide ((-1 : Int) ≥ (0 : Int))) = false,
      false = false,
      false = false,
      (!false) = true,
      (!(En.a en0 == (0 : Int) && (En.n en0 == (0 : Int) && true))) = false,
      (En.x en0 != (0 : Int)) = false,
      (0 : Nat) = (0 : Nat),
      Ac32.a (A (Int.toNat (↑i : Int))) = RdN.a N,
      Ac32.n (A (Int.toNat (↑i : Int))) = RdN.n N,
      (0 : Nat) = (0 : Nat),
      (↑(List.length (RdN.l' N)) : Int) = (↑(List.length (RdN.l' N)) : Int),
      TA none (RdN.T' N) = TA none (RdN.T' N),
      Ac32.a (A (Int.toNat (↑i : Int))) = RdN.a N,
      Ac32.n (A (Int.toNat (↑i : Int))) = RdN.n N,
      List.length (RdN.l' N) = List.length (RdN.l' N),
      ∀ (i : Nat), i < List.length (RdN.l' N) → En.a (enF (RdN.l' N) i) = En.a (enF (RdN.l' N) i) ∧ En.n (enF (RdN.l' N) i) = En.n (enF (RdN.l' N) i) ∧ En.x (enF (RdN.l' N) i) = En.x (enF (RdN.l' N) i) ∧ True,
      (!false == decide ((-1 : Int) ≥ (0 : Int))) = false,
      false = false,
      false = false,
      (!false) = true,
      ((0 : Int) != (0 : Int)) = false,
      (0 : Nat) = (0 : Nat),
      (↑(List.length (RdN.l' N)) : Int) = (↑(List.length (RdN.l' N)) : Int),
      ((↑(List.length (RdN.l' N)) : Int) != (↑(List.length (RdN.l' N)) : Int)) = false,
      (0 : Nat) = (0 : Nat),
      (↑len : Int) = (↑len : Int),
      IntKind.wrap IntKind.i64 ((↑i : Int) + (1 : Int)) = (↑(i + (1 : Nat)) : Int),
      len = len,
      ∀ (i : Nat), i < len → Ac32.d (A i) = Ac32.d (A i) ∧ Ac32.a (A i) = Ac32.a (A i) ∧ Ac32.n (A i) = Ac32.n (A i) ∧ Ac32.x (A i) = Ac32.x (A i) ∧ Ac32.k (A i) = Ac32.k (A i) ∧ True,
      (0 : Nat) = (0 : Nat),
      (↑(List.length (RdN.l' N)) : Int) = (↑(List.length (RdN.l' N)) : Int),
      TA none (RdN.T' N) = TA none (RdN.T' N),
      List.length (RdN.l' N) = List.length (RdN.l' N),
      ∀ (i : Nat), i < List.length (RdN.l' N) → En.a (enF (RdN.l' N) i) = En.a (enF (RdN.l' N) i) ∧ En.n (enF (RdN.l' N) i) = En.n (enF (RdN.l' N) i) ∧ En.x (enF (RdN.l' N) i) = En.x (enF (RdN.l' N) i) ∧ True]) (by kernel_rfl) (.cons (by exact decide_eq_true (by omega)) (.cons (by (simp; done)) (.cons (by omega) (.cons (by assumption) (.cons (by (rw [Int.toNat_natCast, hA])) (.cons (by rfl) (.cons (by (rw [Int.toNat_natCast, hA])) (.cons (by (rw [Int.toNat_natCast, hA])) (.cons (by rfl) (.cons (by rfl) (.cons (by rfl) (.cons (by (rw [Int.toNat_natCast, hA])) (.cons (by (rw [Int.toNat_natCast, hA])) (.cons (by rfl) (.cons (by (simp; done)) (.cons (by (intro _ _; rfl)) (.cons (by (simp; done)) (.cons (by (simp; done)) (.cons (by rfl) (.cons (by (rw [Int.toNat_natCast, hA])) (.cons (by rfl) (.cons (by rfl) (.cons (by rfl) (.cons (by (rw [Int.toNat_natCast, hA])) (.cons (by rfl) (.cons (by (simp; done)) (.cons (by rfl) (.cons (by rfl) (.cons (by rfl) (.cons (by rfl) (.cons (by rfl) (.cons (by rfl) (.cons (by rfl) (.cons (by (rw [Int.toNat_natCast, hA])) (.cons (by (rw [Int.toNat_natCast, hA])) (.cons (by rfl) (.cons (by rfl) (.cons (by rfl) (.cons (by (rw [Int.toNat_natCast, hA])) (.cons (by (rw [Int.toNat_natCast, hA])) (.cons (by rfl) (.cons (by (simp; done)) (.cons (by rfl) (.cons (by rfl) (.cons (by rfl) (.cons (by rfl) (.cons (by rfl) (.cons (by rfl) (.cons (by rfl) (.cons (by (simp; done)) (.cons (by rfl) (.cons (by rfl) (.cons (by exact w64 (by omega) (by omega)) (.cons (by rfl) (.cons (by (simp; done)) (.cons (by rfl) (.cons (by rfl) (.cons (by rfl) (.cons (by rfl) (.cons (by (simp; done)) .nil)))))))))))))))))))))))))))))))))))))))))))))))))))))))))))) (Nat.le_of_ble_eq_true (by kernel_rfl))

set_option maxHeartbeats 2000000 in
theorem pl_101 (N : RdN) (ih : RdOk true false true N) (len i : Nat) (A : Nat → Ac32) (hl : len ≤ 150) (hi : i < len) (hA : A i = ⟨true, N.a, N.n, N.x, N.k⟩) (g1 : N.gj < N.l'.length) (g2 : (enF N.l' N.gj).x = N.gx) : CodeOk Try.prog 1 (loopOf Try.f4 0) (mkSt 197 [(3, .nv (.one (.ptr 1 0))), (4, .nv (.one (.own 3))), (30, .nv (.one (.own 0))), (31, iA len), (32, iA i)] [.ro 5 len (gAc A), .box 57 [.root 2 0 true, .val (.int .i64 (N.l.length : Nat))], .abs (TA none N.T), .row 46 3 N.l.length (gEn (enF N.l))]) .normal (mkSt 197 [(3, .nv (.one (.ptr 1 0))), (4, .nv (.one (.own 3))), (30, .nv (.one (.own 0))), (31, iA len), (32, iA (i + 1 : Nat))] [.ro 5 len (gAc A), .box 57 [.root 2 0 true, .val (.int .i64 (N.l'.length : Nat))], .abs (TA none N.T'), .row 46 3 N.l'.length (gEn (enF N.l'))]) :=
  code_run (Gtp101_ok N ih) (orc := ⟨[true, true, false, false, false, false, false, true, false, false, false, true, false, false, false, false], []⟩) (obl := [decide ((↑i : Int) < (↑len : Int)) = true,
      (0 : Int) ≤ (↑i : Int),
      (↑i : Int) < (↑len : Int),
      Int.toNat (↑i : Int) < len,
      Ac32.d (A (Int.toNat (↑i : Int))) = true,
      (0 : Nat) = (0 : Nat),
      Ac32.a (A (Int.toNat (↑i : Int))) = RdN.a N,
      Ac32.n (A (Int.toNat (↑i : Int))) = RdN.n N,
      (0 : Nat) = (0 : Nat),
      (↑(List.length (RdN.l N)) : Int) = (↑(List.length (RdN.l N)) : Int),
      TA none (RdN.T N) = TA none (RdN.T N),
      Ac32.a (A (Int.toNat (↑i : Int))) = RdN.a N,
      Ac32.n (A (Int.toNat (↑i : Int))) = RdN.n N,
      List.length (RdN.l N) = List.length (RdN.l N),
      ∀ (i : Nat), i < List.length (RdN.l N) → En.a (enF (RdN.l N) i) = En.a (enF (RdN.l N) i) ∧ En.n (enF (RdN.l N) i) = En.n (enF (RdN.l N) i) ∧ En.x (enF (RdN.l N) i) = En.x (enF (RdN.l N) i) ∧ True,
      ∀ (i : Nat), i < List.length (RdN.l' N) → (true && (true && (true && true))) = true,
      (RdN.x1 N != RdN.x1 N) = false,
      (!RdN.b1 N == RdN.b1 N) = false,
      (0 : Nat) = (0 : Nat),
      Ac32.k (A (Int.toNat (↑i : Int))) = RdN.k N,
      (0 : Nat) = (0 : Nat),
      (↑(List.length (RdN.l' N)) : Int) = (↑(List.length (RdN.l' N)) : Int),
      TA none (RdN.T' N) = TA none (RdN.T' N),
      Ac32.k (A (Int.toNat (↑i : Int))) = RdN.k N,
      List.length (RdN.l' N) = List.length (RdN.l' N),
      ∀ (i : Nat), i < List.length (RdN.l' N) → En.a (enF (RdN.l' N) i) = En.a (enF (RdN.l' N) i) ∧ En.n (enF (RdN.l' N) i) = En.n (enF (RdN.l' N) i) ∧ En.x (enF (RdN.l' N) i) = En.x (enF (RdN.l' N) i) ∧ True,
      (!false == decide ((-1 : Int) ≥ (0 : Int))) = false,
      false = false,
      false = false,
      (!false) = true,
      (!(En.a en0 == (0 : Int) && (En.n en0 == (0 : Int) && true))) = false,
      (En.x en0 != (0 : Int)) = false,
      (0 : Nat) = (0 : Nat),
      Ac32.a (A (Int.toNat (↑i : Int))) = RdN.a N,
      Ac32.n (A (Int.toNat (↑i : Int))) = RdN.n N,
      (0 : Nat) = (0 : Nat),
      (↑(List.length (RdN.l' N)) : Int) = (↑(List.length (RdN.l' N)) : Int),
      TA none (RdN.T' N) = TA none (RdN.T' N),
      Ac32.a (A (Int.toNat (↑i : Int))) = RdN.a N,
      Ac32.n (A (Int.toNat (↑i : Int))) = RdN.n N,
      List.length (RdN.l' N) = List.length (RdN.l' N),
      ∀ (i : Nat), i < List.length (RdN.l' N) → En.a (enF (RdN.l' N) i) = En.a (enF (RdN.l' N) i) ∧ En.n (enF (RdN.l' N) i) = En.n (enF (RdN.l' N) i) ∧ En.x (enF (RdN.l' N) i) = En.x (enF (RdN.l' N) i) ∧ True,
      (!true == decide ((↑(RdN.gj N) : Int) ≥ (0 : Int))) = false,
      true = true,
      (0 : Int) ≤ (↑(RdN.gj N) : Int),
      (↑(RdN.gj N) : Int) < (↑(List.length (RdN.l' N)) : Int),
      Int.toNat (↑(RdN.gj N) : Int) < List.length (RdN.l' N),
      (RdN.gx N != En.x (enF (RdN.l' N) (Int.toNat (↑(RdN.gj N) : Int)))) = false,
      (!true) = false,
      false = false,
      (0 : Nat) = (0 : Nat),
      (↑(List.length (RdN.l' N)) : Int) = (↑(List.length (RdN.l' N)) : Int),
      ((↑(List.length (RdN.l' N)) : Int) != (↑(List.length (RdN.l' N)) : Int)) = false,
      (0 : Nat) = (0 : Nat),
      (↑len : Int) = (↑len : Int),
      IntKind.wrap IntKind.i64 ((↑i : Int) + (1 : Int)) = (↑(i + (1 : Nat)) : Int),
      len = len,
      ∀ (i : Nat), i < len → Ac32.d (A i) = Ac32.d (A i) ∧ Ac32.a (A i) = Ac32.a (A i) ∧ Ac32.n (A i) = Ac32.n (A i) ∧ Ac32.x (A i) = Ac32.x (A i) ∧ Ac32.k (A i) = Ac32.k (A i) ∧ True,
      (0 : Nat) = (0 : Nat),
      (↑(List.length (RdN.l' N)) : Int) = (↑(List.length (RdN.l' N)) : Int),
      TA none (RdN.T' N) = TA none (RdN.T' N),
      List.length (RdN.l' N) = List.length (RdN.l' N),
      ∀ (i : Nat), i < List.length (RdN.l' N) → En.a (enF (RdN.l' N) i) = En.a (enF (RdN.l' N) i) ∧ En.n (enF (RdN.l' N) i) = En.n (enF (RdN.l' N) i) ∧ En.x (enF (RdN.l' N) i) = En.x (enF (RdN.l' N) i) ∧ True]) (by kernel_rfl) (.cons (by exact decide_eq_true (by omega)) (.cons (by (simp; done)) (.cons (by omega) (.cons (by assumption) (.cons (by (rw [Int.toNat_natCast, hA])) (.cons (by rfl) (.cons (by (rw [Int.toNat_natCast, hA])) (.cons (by (rw [Int.toNat_natCast, hA])) (.cons (by rfl) (.cons (by rfl) (.cons (by rfl) (.cons (by (rw [Int.toNat_natCast, hA])) (.cons (by (rw [Int.toNat_natCast, hA])) (.cons (by rfl) (.cons (by (simp only [Int.toNat_natCast, g2]; simp)) (.cons (by (intro _ _; rfl)) (.cons (by (simp; done)) (.cons (by (simp; done)) (.cons (by rfl) (.cons (by (rw [Int.toNat_natCast, hA])) (.cons (by rfl) (.cons (by rfl) (.cons (by rfl) (.cons (by (rw [Int.toNat_natCast, hA])) (.cons (by rfl) (.cons (by (simp only [Int.toNat_natCast, g2]; simp)) (.cons (by rfl) (.cons (by rfl) (.cons (by rfl) (.cons (by rfl) (.cons (by rfl) (.cons (by rfl) (.cons (by rfl) (.cons (by (rw [Int.toNat_natCast, hA])) (.cons (by (rw [Int.toNat_natCast, hA])) (.cons (by rfl) (.cons (by rfl) (.cons (by rfl) (.cons (by (rw [Int.toNat_natCast, hA])) (.cons (by (rw [Int.toNat_natCast, hA])) (.cons (by rfl) (.cons (by (simp only [Int.toNat_natCast, g2]; simp)) (.cons (by rfl) (.cons (by rfl) (.cons (by (simp; done)) (.cons (by omega) (.cons (by assumption) (.cons (by (simp only [Int.toNat_natCast, g2]; simp)) (.cons (by rfl) (.cons (by rfl) (.cons (by rfl) (.cons (by rfl) (.cons (by (simp; done)) (.cons (by rfl) (.cons (by rfl) (.cons (by exact w64 (by omega) (by omega)) (.cons (by rfl) (.cons (by (simp only [Int.toNat_natCast, g2]; simp)) (.cons (by rfl) (.cons (by rfl) (.cons (by rfl) (.cons (by rfl) (.cons (by (simp only [Int.toNat_natCast, g2]; simp)) .nil))))))))))))))))))))))))))))))))))))))))))))))))))))))))))))))) (Nat.le_of_ble_eq_true (by kernel_rfl))

set_option maxHeartbeats 2000000 in
theorem pl_110 (N : RdN) (ih : RdOk true true false N) (len i : Nat) (A : Nat → Ac32) (hl : len ≤ 150) (hi : i < len) (hA : A i = ⟨true, N.a, N.n, N.x, N.k⟩) (f1 : N.fj < N.l'.length) (f2 : enF N.l' N.fj = N.f) : CodeOk Try.prog 1 (loopOf Try.f4 0) (mkSt 197 [(3, .nv (.one (.ptr 1 0))), (4, .nv (.one (.own 3))), (30, .nv (.one (.own 0))), (31, iA len), (32, iA i)] [.ro 5 len (gAc A), .box 57 [.root 2 0 true, .val (.int .i64 (N.l.length : Nat))], .abs (TA none N.T), .row 46 3 N.l.length (gEn (enF N.l))]) .normal (mkSt 197 [(3, .nv (.one (.ptr 1 0))), (4, .nv (.one (.own 3))), (30, .nv (.one (.own 0))), (31, iA len), (32, iA (i + 1 : Nat))] [.ro 5 len (gAc A), .box 57 [.root 2 0 true, .val (.int .i64 (N.l'.length : Nat))], .abs (TA none N.T'), .row 46 3 N.l'.length (gEn (enF N.l'))]) :=
  code_run (Gtp110_ok N ih) (orc := ⟨[true, true, false, false, false, true, false, false, false, false, false, false, false, true, false, false], []⟩) (obl := [decide ((↑i : Int) < (↑len : Int)) = true,
      (0 : Int) ≤ (↑i : Int),
      (↑i : Int) < (↑len : Int),
      Int.toNat (↑i : Int) < len,
      Ac32.d (A (Int.toNat (↑i : Int))) = true,
      (0 : Nat) = (0 : Nat),
      Ac32.a (A (Int.toNat (↑i : Int))) = RdN.a N,
      Ac32.n (A (Int.toNat (↑i : Int))) = RdN.n N,
      (0 : Nat) = (0 : Nat),
      (↑(List.length (RdN.l N)) : Int) = (↑(List.length (RdN.l N)) : Int),
      TA none (RdN.T N) = TA none (RdN.T N),
      Ac32.a (A (Int.toNat (↑i : Int))) = RdN.a N,
      Ac32.n (A (Int.toNat (↑i : Int))) = RdN.n N,
      List.length (RdN.l N) = List.length (RdN.l N),
      ∀ (i : Nat), i < List.length (RdN.l N) → En.a (enF (RdN.l N) i) = En.a (enF (RdN.l N) i) ∧ En.n (enF (RdN.l N) i) = En.n (enF (RdN.l N) i) ∧ En.x (enF (RdN.l N) i) = En.x (enF (RdN.l N) i) ∧ True,
      ∀ (i : Nat), i < List.length (RdN.l' N) → (true && (true && (true && true))) = true,
      (RdN.x1 N != RdN.x1 N) = false,
      (!RdN.b1 N == RdN.b1 N) = false,
      (0 : Nat) = (0 : Nat),
      Ac32.k (A (Int.toNat (↑i : Int))) = RdN.k N,
      (0 : Nat) = (0 : Nat),
      (↑(List.length (RdN.l' N)) : Int) = (↑(List.length (RdN.l' N)) : Int),
      TA none (RdN.T' N) = TA none (RdN.T' N),
      Ac32.k (A (Int.toNat (↑i : Int))) = RdN.k N,
      List.length (RdN.l' N) = List.length (RdN.l' N),
      ∀ (i : Nat), i < List.length (RdN.l' N) → En.a (enF (RdN.l' N) i) = En.a (enF (RdN.l' N) i) ∧ En.n (enF (RdN.l' N) i) = En.n (enF (RdN.l' N) i) ∧ En.x (enF (RdN.l' N) i) = En.x (enF (RdN.l' N) i) ∧ True,
      (!true == decide ((↑(RdN.fj N) : Int) ≥ (0 : Int))) = false,
      true = true,
      (0 : Int) ≤ (↑(RdN.fj N) : Int),
      (↑(RdN.fj N) : Int) < (↑(List.length (RdN.l' N)) : Int),
      Int.toNat (↑(RdN.fj N) : Int) < List.length (RdN.l' N),
      (!(En.a (RdN.f N) == En.a (enF (RdN.l' N) (Int.toNat (↑(RdN.fj N) : Int))) && (En.n (RdN.f N) == En.n (enF (RdN.l' N) (Int.toNat (↑(RdN.fj N) : Int))) && true))) = false,
      (0 : Int) ≤ (↑(RdN.fj N) : Int),
      (↑(RdN.fj N) : Int) < (↑(List.length (RdN.l' N)) : Int),
      Int.toNat (↑(RdN.fj N) : Int) < List.length (RdN.l' N),
      (En.x (RdN.f N) != En.x (enF (RdN.l' N) (Int.toNat (↑(RdN.fj N) : Int)))) = false,
      (!true) = false,
      false = false,
      (0 : Nat) = (0 : Nat),
      Ac32.a (A (Int.toNat (↑i : Int))) = RdN.a N,
      Ac32.n (A (Int.toNat (↑i : Int))) = RdN.n N,
      (0 : Nat) = (0 : Nat),
      (↑(List.length (RdN.l' N)) : Int) = (↑(List.length (RdN.l' N)) : Int),
      TA none (RdN.T' N) = TA none (RdN.T' N),
      Ac32.a (A (Int.toNat (↑i : Int))) = RdN.a N,
      Ac32.n (A (Int.toNat (↑i : Int))) = RdN.n N,
      List.length (RdN.l' N) = List.length (RdN.l' N),
      ∀ (i : Nat), i < List.length (RdN.l' N) → En.a (enF (RdN.l' N) i) = En.a (enF (RdN.l' N) i) ∧ En.n (enF (RdN.l' N) i) = En.n (enF (RdN.l' N) i) ∧ En.x (enF (RdN.l' N) i) = En.x (enF (RdN.l' N) i) ∧ True,
      (!false == decide ((-1 : Int) ≥ (0 : Int))) = false,
      false = false,
      false = false,
      (!false) = true,
      ((0 : Int) != (0 : Int)) = false,
      (0 : Nat) = (0 : Nat),
      (↑(List.length (RdN.l' N)) : Int) = (↑(List.length (RdN.l' N)) : Int),
      ((↑(List.length (RdN.l' N)) : Int) != (↑(List.length (RdN.l' N)) : Int)) = false,
      (0 : Nat) = (0 : Nat),
      (↑len : Int) = (↑len : Int),
      IntKind.wrap IntKind.i64 ((↑i : Int) + (1 : Int)) = (↑(i + (1 : Nat)) : Int),
      len = len,
      ∀ (i : Nat), i < len → Ac32.d (A i) = Ac32.d (A i) ∧ Ac32.a (A i) = Ac32.a (A i) ∧ Ac32.n (A i) = Ac32.n (A i) ∧ Ac32.x (A i) = Ac32.x (A i) ∧ Ac32.k (A i) = Ac32.k (A i) ∧ True,
      (0 : Nat) = (0 : Nat),
      (↑(List.length (RdN.l' N)) : Int) = (↑(List.length (RdN.l' N)) : Int),
      TA none (RdN.T' N) = TA none (RdN.T' N),
      List.length (RdN.l' N) = List.length (RdN.l' N),
      ∀ (i : Nat), i < List.length (RdN.l' N) → En.a (enF (RdN.l' N) i) = En.a (enF (RdN.l' N) i) ∧ En.n (enF (RdN.l' N) i) = En.n (enF (RdN.l' N) i) ∧ En.x (enF (RdN.l' N) i) = En.x (enF (RdN.l' N) i) ∧ True]) (by kernel_rfl) (.cons (by exact decide_eq_true (by omega)) (.cons (by (simp; done)) (.cons (by omega) (.cons (by assumption) (.cons (by (rw [Int.toNat_natCast, hA])) (.cons (by rfl) (.cons (by (rw [Int.toNat_natCast, hA])) (.cons (by (rw [Int.toNat_natCast, hA])) (.cons (by rfl) (.cons (by rfl) (.cons (by rfl) (.cons (by (rw [Int.toNat_natCast, hA])) (.cons (by (rw [Int.toNat_natCast, hA])) (.cons (by rfl) (.cons (by (simp only [Int.toNat_natCast, f2]; simp)) (.cons (by (intro _ _; rfl)) (.cons (by (simp; done)) (.cons (by (simp; done)) (.cons (by rfl) (.cons (by (rw [Int.toNat_natCast, hA])) (.cons (by rfl) (.cons (by rfl) (.cons (by rfl) (.cons (by (rw [Int.toNat_natCast, hA])) (.cons (by rfl) (.cons (by (simp only [Int.toNat_natCast, f2]; simp)) (.cons (by rfl) (.cons (by rfl) (.cons (by (simp; done)) (.cons (by omega) (.cons (by assumption) (.cons (by (simp only [Int.toNat_natCast, f2]; simp)) (.cons (by (simp; done)) (.cons (by omega) (.cons (by assumption) (.cons (by (simp only [Int.toNat_natCast, f2]; simp)) (.cons (by rfl) (.cons (by rfl) (.cons (by rfl) (.cons (by (rw [Int.toNat_natCast, hA])) (.cons (by (rw [Int.toNat_natCast, hA])) (.cons (by rfl) (.cons (by rfl) (.cons (by rfl) (.cons (by (rw [Int.toNat_natCast, hA])) (.cons (by (rw [Int.toNat_natCast, hA])) (.cons (by rfl) (.cons (by (simp only [Int.toNat_natCast, f2]; simp)) (.cons (by rfl) (.cons (by rfl) (.cons (by rfl) (.cons (by rfl) (.cons (by rfl) (.cons (by rfl) (.cons (by rfl) (.cons (by (simp; done)) (.cons (by rfl) (.cons (by rfl) (.cons (by exact w64 (by omega) (by omega)) (.cons (by rfl) (.cons (by (simp only [Int.toNat_natCast, f2]; simp)) (.cons (by rfl) (.cons (by rfl) (.cons (by rfl) (.cons (by rfl) (.cons (by (simp only [Int.toNat_natCast, f2]; simp)) .nil)))))))))))))))))))))))))))))))))))))))))))))))))))))))))))))))))) (Nat.le_of_ble_eq_true (by kernel_rfl))

set_option maxHeartbeats 2000000 in
theorem pl_111 (N : RdN) (ih : RdOk true true true N) (len i : Nat) (A : Nat → Ac32) (hl : len ≤ 150) (hi : i < len) (hA : A i = ⟨true, N.a, N.n, N.x, N.k⟩) (f1 : N.fj < N.l'.length) (f2 : enF N.l' N.fj = N.f) (g1 : N.gj < N.l'.length) (g2 : (enF N.l' N.gj).x = N.gx) : CodeOk Try.prog 1 (loopOf Try.f4 0) (mkSt 197 [(3, .nv (.one (.ptr 1 0))), (4, .nv (.one (.own 3))), (30, .nv (.one (.own 0))), (31, iA len), (32, iA i)] [.ro 5 len (gAc A), .box 57 [.root 2 0 true, .val (.int .i64 (N.l.length : Nat))], .abs (TA none N.T), .row 46 3 N.l.length (gEn (enF N.l))]) .normal (mkSt 197 [(3, .nv (.one (.ptr 1 0))), (4, .nv (.one (.own 3))), (30, .nv (.one (.own 0))), (31, iA len), (32, iA (i + 1 : Nat))] [.ro 5 len (gAc A), .box 57 [.root 2 0 true, .val (.int .i64 (N.l'.length : Nat))], .abs (TA none N.T'), .row 46 3 N.l'.length (gEn (enF N.l'))]) :=
  code_run (Gtp111_ok N ih) (orc := ⟨[true, true, false, false, false, true, false, false, false, false, false, true, false, false, false, false], []⟩) (obl := [decide ((↑i : Int) < (↑len : Int)) = true,
      (0 : Int) ≤ (↑i : Int),
      (↑i : Int) < (↑len : Int),
      Int.toNat (↑i : Int) < len,
      Ac32.d (A (Int.toNat (↑i : Int))) = true,
      (0 : Nat) = (0 : Nat),
      Ac32.a (A (Int.toNat (↑i : Int))) = RdN.a N,
      Ac32.n (A (Int.toNat (↑i : Int))) = RdN.n N,
      (0 : Nat) = (0 : Nat),
      (↑(List.length (RdN.l N)) : Int) = (↑(List.length (RdN.l N)) : Int),
      TA none (RdN.T N) = TA none (RdN.T N),
      Ac32.a (A (Int.toNat (↑i : Int))) = RdN.a N,
      Ac32.n (A (Int.toNat (↑i : Int))) = RdN.n N,
      List.length (RdN.l N) = List.length (RdN.l N),
      ∀ (i : Nat), i < List.length (RdN.l N) → En.a (enF (RdN.l N) i) = En.a (enF (RdN.l N) i) ∧ En.n (enF (RdN.l N) i) = En.n (enF (RdN.l N) i) ∧ En.x (enF (RdN.l N) i) = En.x (enF (RdN.l N) i) ∧ True,
      ∀ (i : Nat), i < List.length (RdN.l' N) → (true && (true && (true && true))) = true,
      (RdN.x1 N != RdN.x1 N) = false,
      (!RdN.b1 N == RdN.b1 N) = false,
      (0 : Nat) = (0 : Nat),
      Ac32.k (A (Int.toNat (↑i : Int))) = RdN.k N,
      (0 : Nat) = (0 : Nat),
      (↑(List.length (RdN.l' N)) : Int) = (↑(List.length (RdN.l' N)) : Int),
      TA none (RdN.T' N) = TA none (RdN.T' N),
      Ac32.k (A (Int.toNat (↑i : Int))) = RdN.k N,
      List.length (RdN.l' N) = List.length (RdN.l' N),
      ∀ (i : Nat), i < List.length (RdN.l' N) → En.a (enF (RdN.l' N) i) = En.a (enF (RdN.l' N) i) ∧ En.n (enF (RdN.l' N) i) = En.n (enF (RdN.l' N) i) ∧ En.x (enF (RdN.l' N) i) = En.x (enF (RdN.l' N) i) ∧ True,
      (!true == decide ((↑(RdN.fj N) : Int) ≥ (0 : Int))) = false,
      true = true,
      (0 : Int) ≤ (↑(RdN.fj N) : Int),
      (↑(RdN.fj N) : Int) < (↑(List.length (RdN.l' N)) : Int),
      Int.toNat (↑(RdN.fj N) : Int) < List.length (RdN.l' N),
      (!(En.a (RdN.f N) == En.a (enF (RdN.l' N) (Int.toNat (↑(RdN.fj N) : Int))) && (En.n (RdN.f N) == En.n (enF (RdN.l' N) (Int.toNat (↑(RdN.fj N) : Int))) && true))) = false,
      (0 : Int) ≤ (↑(RdN.fj N) : Int),
      (↑(RdN.fj N) : Int) < (↑(List.length (RdN.l' N)) : Int),
      Int.toNat (↑(RdN.fj N) : Int) < List.length (RdN.l' N),
      (En.x (RdN.f N) != En.x (enF (RdN.l' N) (Int.toNat (↑(RdN.fj N) : Int)))) = false,
      (!true) = false,
      false = false,
      (0 : Nat) = (0 : Nat),
      Ac32.a (A (Int.toNat (↑i : Int))) = RdN.a N,
      Ac32.n (A (Int.toNat (↑i : Int))) = RdN.n N,
      (0 : Nat) = (0 : Nat),
      (↑(List.length (RdN.l' N)) : Int) = (↑(List.length (RdN.l' N)) : Int),
      TA none (RdN.T' N) = TA none (RdN.T' N),
      Ac32.a (A (Int.toNat (↑i : Int))) = RdN.a N,
      Ac32.n (A (Int.toNat (↑i : Int))) = RdN.n N,
      List.length (RdN.l' N) = List.length (RdN.l' N),
      ∀ (i : Nat), i < List.length (RdN.l' N) → En.a (enF (RdN.l' N) i) = En.a (enF (RdN.l' N) i) ∧ En.n (enF (RdN.l' N) i) = En.n (enF (RdN.l' N) i) ∧ En.x (enF (RdN.l' N) i) = En.x (enF (RdN.l' N) i) ∧ True,
      (!true == decide ((↑(RdN.gj N) : Int) ≥ (0 : Int))) = false,
      true = true,
      (0 : Int) ≤ (↑(RdN.gj N) : Int),
      (↑(RdN.gj N) : Int) < (↑(List.length (RdN.l' N)) : Int),
      Int.toNat (↑(RdN.gj N) : Int) < List.length (RdN.l' N),
      (RdN.gx N != En.x (enF (RdN.l' N) (Int.toNat (↑(RdN.gj N) : Int)))) = false,
      (!true) = false,
      false = false,
      (0 : Nat) = (0 : Nat),
      (↑(List.length (RdN.l' N)) : Int) = (↑(List.length (RdN.l' N)) : Int),
      ((↑(List.length (RdN.l' N)) : Int) != (↑(List.length (RdN.l' N)) : Int)) = false,
      (0 : Nat) = (0 : Nat),
      (↑len : Int) = (↑len : Int),
      IntKind.wrap IntKind.i64 ((↑i : Int) + (1 : Int)) = (↑(i + (1 : Nat)) : Int),
      len = len,
      ∀ (i : Nat), i < len → Ac32.d (A i) = Ac32.d (A i) ∧ Ac32.a (A i) = Ac32.a (A i) ∧ Ac32.n (A i) = Ac32.n (A i) ∧ Ac32.x (A i) = Ac32.x (A i) ∧ Ac32.k (A i) = Ac32.k (A i) ∧ True,
      (0 : Nat) = (0 : Nat),
      (↑(List.length (RdN.l' N)) : Int) = (↑(List.length (RdN.l' N)) : Int),
      TA none (RdN.T' N) = TA none (RdN.T' N),
      List.length (RdN.l' N) = List.length (RdN.l' N),
      ∀ (i : Nat), i < List.length (RdN.l' N) → En.a (enF (RdN.l' N) i) = En.a (enF (RdN.l' N) i) ∧ En.n (enF (RdN.l' N) i) = En.n (enF (RdN.l' N) i) ∧ En.x (enF (RdN.l' N) i) = En.x (enF (RdN.l' N) i) ∧ True]) (by kernel_rfl) (.cons (by exact decide_eq_true (by omega)) (.cons (by (simp; done)) (.cons (by omega) (.cons (by assumption) (.cons (by (rw [Int.toNat_natCast, hA])) (.cons (by rfl) (.cons (by (rw [Int.toNat_natCast, hA])) (.cons (by (rw [Int.toNat_natCast, hA])) (.cons (by rfl) (.cons (by rfl) (.cons (by rfl) (.cons (by (rw [Int.toNat_natCast, hA])) (.cons (by (rw [Int.toNat_natCast, hA])) (.cons (by rfl) (.cons (by (simp only [Int.toNat_natCast, f2]; simp)) (.cons (by (intro _ _; rfl)) (.cons (by (simp; done)) (.cons (by (simp; done)) (.cons (by rfl) (.cons (by (rw [Int.toNat_natCast, hA])) (.cons (by rfl) (.cons (by rfl) (.cons (by rfl) (.cons (by (rw [Int.toNat_natCast, hA])) (.cons (by rfl) (.cons (by (simp only [Int.toNat_natCast, f2]; simp)) (.cons (by rfl) (.cons (by rfl) (.cons (by (simp; done)) (.cons (by omega) (.cons (by assumption) (.cons (by (simp only [Int.toNat_natCast, f2]; simp)) (.cons (by (simp; done)) (.cons (by omega) (.cons (by assumption) (.cons (by (simp only [Int.toNat_natCast, f2]; simp)) (.cons (by rfl) (.cons (by rfl) (.cons (by rfl) (.cons (by (rw [Int.toNat_natCast, hA])) (.cons (by (rw [Int.toNat_natCast, hA])) (.cons (by rfl) (.cons (by rfl) (.cons (by rfl) (.cons (by (rw [Int.toNat_natCast, hA])) (.cons (by (rw [Int.toNat_natCast, hA])) (.cons (by rfl) (.cons (by (simp only [Int.toNat_natCast, f2]; simp)) (.cons (by rfl) (.cons (by rfl) (.cons (by (simp; done)) (.cons (by omega) (.cons (by assumption) (.cons (by (simp only [Int.toNat_natCast, g2]; simp)) (.cons (by rfl) (.cons (by rfl) (.cons (by rfl) (.cons (by rfl) (.cons (by (simp; done)) (.cons (by rfl) (.cons (by rfl) (.cons (by exact w64 (by omega) (by omega)) (.cons (by rfl) (.cons (by (simp only [Int.toNat_natCast, f2]; simp)) (.cons (by rfl) (.cons (by rfl) (.cons (by rfl) (.cons (by rfl) (.cons (by (simp only [Int.toNat_natCast, f2]; simp)) .nil))))))))))))))))))))))))))))))))))))))))))))))))))))))))))))))))))))) (Nat.le_of_ble_eq_true (by kernel_rfl))
end Go.Proofs.Ytfienpkogkepkaa

/- Runs of Go code, as printed by a program: no condition beyond those that each states. -/
namespace Go.Proofs.Ytfienpkogkepkaa
set_option linter.unusedVariables false
set_option linter.unusedSimpArgs false
set_option maxRecDepth 100000
open Go.RowKit E
attribute [local irreducible] TA enF insE dropE fE lkE puE drE atE
set_option maxHeartbeats 2000000 in
theorem pl_l (N : PeN) (ih : PeOk N) (len : Nat) (A : Nat → Ac32) (h : 150 < len) : LawOk Try.prog 4 ([.nv (.one (.own 0))]) ([.ro 5 len (gAc A)]) (bA true) :=
  law_run (Glw_ok N ih) Try.func4 (orc := ⟨[true], []⟩) (obl := [decide ((↑len : Int) > (150 : Int)) = true,
      true = true]) (by kernel_rfl) (.cons (by exact decide_eq_true (by omega)) (.cons (by rfl) .nil))

set_option maxHeartbeats 2000000 in
theorem pl_x (N : PeN) (ih : PeOk N) (len : Nat) (A : Nat → Ac32) (hl : len ≤ 150) : CodeOk Try.prog 1 (loopOf Try.f4 0) (mkSt 197 [(3, .nv (.one (.ptr 1 0))), (4, .nv (.one (.own 3))), (30, .nv (.one (.own 0))), (31, iA len), (32, iA len)] [.ro 5 len (gAc A), .box 57 [.root 2 0 true, .val (.int .i64 (N.l.length : Nat))], .abs (TA none N.T), .row 46 3 N.l.length (gEn (enF N.l))]) (.exit 0) (mkSt 197 [(3, .nv (.one (.ptr 1 0))), (4, .nv (.one (.own 3)))] [.ro 5 len (gAc A), .box 57 [.root 2 0 true, .val (.int .i64 (N.l.length : Nat))], .abs (TA none N.T), .row 46 3 N.l.length (gEn (enF N.l))]) :=
  code_run (Glw_ok N ih) (orc := ⟨[false], []⟩) (obl := [decide ((↑len : Int) < (↑len : Int)) = false,
      (0 : Nat) = (0 : Nat),
      len = len,
      ∀ (i : Nat), i < len → Ac32.d (A i) = Ac32.d (A i) ∧ Ac32.a (A i) = Ac32.a (A i) ∧ Ac32.n (A i) = Ac32.n (A i) ∧ Ac32.x (A i) = Ac32.x (A i) ∧ Ac32.k (A i) = Ac32.k (A i) ∧ True,
      (0 : Nat) = (0 : Nat),
      (↑(List.length (PeN.l N)) : Int) = (↑(List.length (PeN.l N)) : Int),
      TA none (PeN.T N) = TA none (PeN.T N),
      List.length (PeN.l N) = List.length (PeN.l N),
      ∀ (i : Nat), i < List.length (PeN.l N) → En.a (enF (PeN.l N) i) = En.a (enF (PeN.l N) i) ∧ En.n (enF (PeN.l N) i) = En.n (enF (PeN.l N) i) ∧ En.x (enF (PeN.l N) i) = En.x (enF (PeN.l N) i) ∧ True]) (by kernel_rfl) (.cons (by exact decide_eq_false (by omega)) (.cons (by rfl) (.cons (by rfl) (.cons (by (simp; done)) (.cons (by rfl) (.cons (by rfl) (.cons (by rfl) (.cons (by rfl) (.cons (by (simp; done)) .nil))))))))) (Nat.le_of_ble_eq_true (by kernel_rfl))

set_option maxHeartbeats 2000000 in
theorem pe_r (N : PeN) (ih : PeOk N) (len : Nat) (A : Nat → Ac32) (i : Nat) (hi : i < N.l.length) (hl : N.l.length ≤ 4096) : CodeOk Try.prog 1 (loopOf Try.f4 1) (mkSt 197 [(4, .nv (.one (.own 1))), (21, .nv (.one (.own 2))), (181, iA N.l.length), (182, iA i)] [.ro 5 len (gAc A), .row 46 3 N.l.length (gEn (enF N.l)), .row 28 2 N.l.length (gPf (pfF N.l))]) .normal (mkSt 197 [(4, .nv (.one (.own 1))), (21, .nv (.one (.own 2))), (181, iA N.l.length), (182, iA (i + 1 : Nat))] [.ro 5 len (gAc A), .row 46 3 N.l.length (gEn (enF N.l)), .row 28 2 N.l.length (gPf (pfF N.l))]) :=
  code_run (Glw_ok N ih) (orc := ⟨[true, false], []⟩) (obl := [decide ((↑i : Int) < (↑(List.length (PeN.l N)) : Int)) = true,
      (0 : Int) ≤ (↑i : Int),
      (↑i : Int) < (↑(List.length (PeN.l N)) : Int),
      Int.toNat (↑i : Int) < List.length (PeN.l N),
      (0 : Int) ≤ (↑i : Int),
      (↑i : Int) < (↑(List.length (PeN.l N)) : Int),
      Int.toNat (↑i : Int) < List.length (PeN.l N),
      (!(Pf.a (pfF (PeN.l N) (Int.toNat (↑i : Int))) == En.a (enF (PeN.l N) (Int.toNat (↑i : Int))) && (Pf.n (pfF (PeN.l N) (Int.toNat (↑i : Int))) == En.n (enF (PeN.l N) (Int.toNat (↑i : Int))) && true))) = false,
      (↑(List.length (PeN.l N)) : Int) = (↑(List.length (PeN.l N)) : Int),
      IntKind.wrap IntKind.i64 ((↑i : Int) + (1 : Int)) = (↑(i + (1 : Nat)) : Int),
      len = len,
      ∀ (i : Nat), i < len → Ac32.d (A i) = Ac32.d (A i) ∧ Ac32.a (A i) = Ac32.a (A i) ∧ Ac32.n (A i) = Ac32.n (A i) ∧ Ac32.x (A i) = Ac32.x (A i) ∧ Ac32.k (A i) = Ac32.k (A i) ∧ True,
      List.length (PeN.l N) = List.length (PeN.l N),
      ∀ (i : Nat), i < List.length (PeN.l N) → En.a (enF (PeN.l N) i) = En.a (enF (PeN.l N) i) ∧ En.n (enF (PeN.l N) i) = En.n (enF (PeN.l N) i) ∧ En.x (enF (PeN.l N) i) = En.x (enF (PeN.l N) i) ∧ True,
      List.length (PeN.l N) = List.length (PeN.l N),
      ∀ (i : Nat), i < List.length (PeN.l N) → Pf.a (pfF (PeN.l N) i) = Pf.a (pfF (PeN.l N) i) ∧ Pf.n (pfF (PeN.l N) i) = Pf.n (pfF (PeN.l N) i) ∧ True]) (by kernel_rfl) (.cons (by exact decide_eq_true (by omega)) (.cons (by (simp [pfF]; done)) (.cons (by omega) (.cons (by assumption) (.cons (by (simp [pfF]; done)) (.cons (by omega) (.cons (by assumption) (.cons (by (simp only [Int.toNat_natCast, pfF]; simp; done)) (.cons (by rfl) (.cons (by exact w64 (by omega) (by omega)) (.cons (by rfl) (.cons (by (simp only [Int.toNat_natCast, pfF]; simp; done)) (.cons (by rfl) (.cons (by (simp only [Int.toNat_natCast, pfF]; simp; done)) (.cons (by rfl) (.cons (by (simp only [Int.toNat_natCast, pfF]; simp; done)) .nil)))))))))))))))) (Nat.le_of_ble_eq_true (by kernel_rfl))

set_option maxHeartbeats 2000000 in
theorem pe_x (N : PeN) (ih : PeOk N) (len : Nat) (A : Nat → Ac32) (hl : N.l.length ≤ 4096) : CodeOk Try.prog 1 (loopOf Try.f4 1) (mkSt 197 [(4, .nv (.one (.own 1))), (21, .nv (.one (.own 2))), (181, iA N.l.length), (182, iA N.l.length)] [.ro 5 len (gAc A), .row 46 3 N.l.length (gEn (enF N.l)), .row 28 2 N.l.length (gPf (pfF N.l))]) (.exit 2) (mkSt 197 [] [.ro 5 len (gAc A)]) :=
  code_run (Glw_ok N ih) (orc := ⟨[false], []⟩) (obl := [decide ((↑(List.length (PeN.l N)) : Int) < (↑(List.length (PeN.l N)) : Int)) = false,
      len = len,
      ∀ (i : Nat), i < len → Ac32.d (A i) = Ac32.d (A i) ∧ Ac32.a (A i) = Ac32.a (A i) ∧ Ac32.n (A i) = Ac32.n (A i) ∧ Ac32.x (A i) = Ac32.x (A i) ∧ Ac32.k (A i) = Ac32.k (A i) ∧ True]) (by kernel_rfl) (.cons (by exact decide_eq_false (by omega)) (.cons (by rfl) (.cons (by (simp; done)) .nil))) (Nat.le_of_ble_eq_true (by kernel_rfl))

set_option maxHeartbeats 2000000 in
theorem pl_f (N : PeN) (ih : PeOk N) (len : Nat) (A : Nat → Ac32) (F0 : Nat → En) (h : len ≤ 150) (hl : N.l.length ≤ 4096) (l0 : CodeOk Try.prog 1 (.loop (loopOf Try.f4 0)) (mkSt 197 [(3, .nv (.one (.ptr 1 0))), (4, .nv (.one (.own 3))), (30, .nv (.one (.own 0))), (31, iA len), (32, iA (0 : Nat))] [.ro 5 len (gAc A), .box 57 [.root 2 0 true, .val (.int .i64 (([] : List En).length : Nat))], .abs (TA none emT), .row 46 3 ([] : List En).length (gEn (enF ([] : List En)))]) (.exit 0) (mkSt 197 [(3, .nv (.one (.ptr 1 0))), (4, .nv (.one (.own 3)))] [.ro 5 len (gAc A), .box 57 [.root 2 0 true, .val (.int .i64 (N.l.length : Nat))], .abs (TA none N.T), .row 46 3 N.l.length (gEn (enF N.l))])) (l1 : CodeOk Try.prog 1 (.loop (loopOf Try.f4 1)) (mkSt 197 [(4, .nv (.one (.own 1))), (21, .nv (.one (.own 2))), (181, iA N.l.length), (182, iA (0 : Nat))] [.ro 5 len (gAc A), .row 46 3 N.l.length (gEn (enF N.l)), .row 28 2 N.l.length (gPf (pfF N.l))]) (.exit 2) (mkSt 197 [] [.ro 5 len (gAc A)])) : LawOk Try.prog 4 ([.nv (.one (.own 0))]) ([.ro 5 len (gAc A)]) (bA true) :=
  law_run (Glw_ok N ih) Try.func4 (orc := ⟨[false, false, false], [⟨mkSt 197 [(3, .nv (.one (.ptr 1 0))), (4, .nv (.one (.own 3))), (30, .nv (.one (.own 0))), (31, iA len), (32, iA (0 : Nat))] [.ro 5 len (gAc A), .box 57 [.root 2 0 true, .val (.int .i64 (([] : List En).length : Nat))], .abs (TA none emT), .row 46 3 ([] : List En).length (gEn (enF ([] : List En)))], .exit 0, mkSt 197 [(3, .nv (.one (.ptr 1 0))), (4, .nv (.one (.own 3)))] [.ro 5 len (gAc A), .box 57 [.root 2 0 true, .val (.int .i64 (N.l.length : Nat))], .abs (TA none N.T), .row 46 3 N.l.length (gEn (enF N.l))]⟩, ⟨mkSt 197 [(4, .nv (.one (.own 1))), (21, .nv (.one (.own 2))), (181, iA N.l.length), (182, iA (0 : Nat))] [.ro 5 len (gAc A), .row 46 3 N.l.length (gEn (enF N.l)), .row 28 2 N.l.length (gPf (pfF N.l))], .exit 2, mkSt 197 [] [.ro 5 len (gAc A)]⟩]⟩) (obl := [decide ((↑len : Int) > (150 : Int)) = false,
      false = false,
      (0 : Nat) = (0 : Nat),
      (↑len : Int) = (↑len : Int),
      (0 : Int) = (↑(0 : Nat) : Int),
      len = len,
      ∀ (i : Nat), i < len → Ac32.d (A i) = Ac32.d (A i) ∧ Ac32.a (A i) = Ac32.a (A i) ∧ Ac32.n (A i) = Ac32.n (A i) ∧ Ac32.x (A i) = Ac32.x (A i) ∧ Ac32.k (A i) = Ac32.k (A i) ∧ True,
      (0 : Nat) = (0 : Nat),
      (0 : Int) = (↑(0 : Nat) : Int),
      TA none emT = TA none emT,
      (0 : Nat) = (0 : Nat),
      (1 : Nat) ≤ (4 : Nat),
      CodeOk Try.prog (1 : Nat) (Code.loop (loopOf Try.f4 (0 : Nat))) (mkSt (197 : Nat) [((3 : Nat), SV.nv (NV.one (At.ptr (1 : Nat) (0 : Nat)))), ((4 : Nat), SV.nv (NV.one (At.own (3 : Nat)))), ((30 : Nat), SV.nv (NV.one (At.own (0 : Nat)))), ((31 : Nat), iA (↑len : Int)), ((32 : Nat), iA (↑(0 : Nat) : Int))] [Seg.ro (5 : Nat) len (gAc A), Seg.box (57 : TypeId) [At.root (2 : Nat) (0 : Nat) true, At.val (Value.int IntKind.i64 (↑(List.length []) : Int))], Seg.abs (TA none emT), Seg.row (46 : TypeId) (3 : Nat) (List.length []) (gEn (enF []))]) (Ex.exit (0 : Nat)) (mkSt (197 : Nat) [((3 : Nat), SV.nv (NV.one (At.ptr (1 : Nat) (0 : Nat)))), ((4 : Nat), SV.nv (NV.one (At.own (3 : Nat))))] [Seg.ro (5 : Nat) len (gAc A), Seg.box (57 : TypeId) [At.root (2 : Nat) (0 : Nat) true, At.val (Value.int IntKind.i64 (↑(List.length (PeN.l N)) : Int))], Seg.abs (TA none (PeN.T N)), Seg.row (46 : TypeId) (3 : Nat) (List.length (PeN.l N)) (gEn (enF (PeN.l N)))]),
      (0 : Nat) = (0 : Nat),
      (0 : Nat) = (0 : Nat),
      (↑(List.length (PeN.l N)) : Int) = (↑(List.length (PeN.l N)) : Int),
      TA none (PeN.T N) = TA none (PeN.T N),
      ∀ (i : Nat), i < List.length (PeN.l N) → (true && (true && true)) = true,
      ((↑(List.length (PeN.l N)) : Int) != (↑(List.length (PeN.l N)) : Int)) = false,
      (↑(List.length (PeN.l N)) : Int) = (↑(List.length (PeN.l N)) : Int),
      (0 : Int) = (↑(0 : Nat) : Int),
      len = len,
      ∀ (i : Nat), i < len → Ac32.d (A i) = Ac32.d (A i) ∧ Ac32.a (A i) = Ac32.a (A i) ∧ Ac32.n (A i) = Ac32.n (A i) ∧ Ac32.x (A i) = Ac32.x (A i) ∧ Ac32.k (A i) = Ac32.k (A i) ∧ True,
      List.length (PeN.l N) = List.length (PeN.l N),
      ∀ (i : Nat), i < List.length (PeN.l N) → En.a (enF (PeN.l N) i) = En.a (enF (PeN.l N) i) ∧ En.n (enF (PeN.l N) i) = En.n (enF (PeN.l N) i) ∧ En.x (enF (PeN.l N) i) = En.x (enF (PeN.l N) i) ∧ True,
      List.length (PeN.l N) = List.length (PeN.l N),
      ∀ (i : Nat), i < List.length (PeN.l N) → Pf.a (pfF (PeN.l N) i) = Pf.a (pfF (PeN.l N) i) ∧ Pf.n (pfF (PeN.l N) i) = Pf.n (pfF (PeN.l N) i) ∧ True,
      (1 : Nat) ≤ (3 : Nat),
      CodeOk Try.prog (1 : Nat) (Code.loop (loopOf Try.f4 (1 : Nat))) (mkSt (197 : Nat) [((4 : Nat), SV.nv (NV.one (At.own (1 : Nat)))), ((21 : Nat), SV.nv (NV.one (At.own (2 : Nat)))), ((181 : Nat), iA (↑(List.length (PeN.l N)) : Int)), ((182 : Nat), iA (↑(0 : Nat) : Int))] [Seg.ro (5 : Nat) len (gAc A), Seg.row (46 : TypeId) (3 : Nat) (List.length (PeN.l N)) (gEn (enF (PeN.l N))), Seg.row (28 : TypeId) (2 : Nat) (List.length (PeN.l N)) (gPf (pfF (PeN.l N)))]) (Ex.exit (2 : Nat)) (mkSt (197 : Nat) [] [Seg.ro (5 : Nat) len (gAc A)]),
      true = true]) (by kernel_rfl) (.cons (by exact decide_eq_false (by omega)) (.cons (by rfl) (.cons (by rfl) (.cons (by rfl) (.cons (by rfl) (.cons (by rfl) (.cons (by (simp; done)) (.cons (by rfl) (.cons (by rfl) (.cons (by rfl) (.cons (by rfl) (.cons (by trivial) (.cons (by assumption) (.cons (by rfl) (.cons (by rfl) (.cons (by rfl) (.cons (by rfl) (.cons (by (intro _ _; rfl)) (.cons (by exact bne_eq_false_iff_eq.2 (by omega)) (.cons (by rfl) (.cons (by rfl) (.cons (by rfl) (.cons (by (simp; done)) (.cons (by rfl) (.cons (by (simp; done)) (.cons (by rfl) (.cons (by (intro j hj; exact ⟨rfl, rfl, trivial⟩)) (.cons (by trivial) (.cons (by assumption) (.cons (by rfl) .nil))))))))))))))))))))))))))))))
end Go.Proofs.Ytfienpkogkepkaa

/- TriePlays: the walk. No condition. -/
namespace Go.Proofs.Ytfienpkogkepkaa
set_option linter.unusedVariables false
set_option linter.unusedSimpArgs false
open Go.RowKit E
def pS (len : Nat) (A : Nat → Ac32) (T : PT) (l : List En) (i : Nat) : E.St := mkSt 197 [(3, .nv (.one (.ptr 1 0))), (4, .nv (.one (.own 3))), (30, .nv (.one (.own 0))), (31, iA len), (32, iA i)] [.ro 5 len (gAc A), .box 57 [.root 2 0 true, .val (.int .i64 (l.length : Nat))], .abs (TA none T), .row 46 3 l.length (gEn (enF l))]
def pS1 (len : Nat) (A : Nat → Ac32) (T : PT) (l : List En) : E.St := mkSt 197 [(3, .nv (.one (.ptr 1 0))), (4, .nv (.one (.own 3)))] [.ro 5 len (gAc A), .box 57 [.root 2 0 true, .val (.int .i64 (l.length : Nat))], .abs (TA none T), .row 46 3 l.length (gEn (enF l))]
def okAc (e : Ac32) : Prop := (0 ≤ e.a ∧ e.a ≤ 4294967295) ∧ (0 ≤ e.k ∧ e.k ≤ 4294967295)
theorem find_part {T : PT} {l : List En} {k : Int} (h : TrOk T l l.length) (hk : 0 ≤ k ∧ k ≤ 4294967295) : ∃ (fh : Bool) (f : En) (j : Nat), (fh = true → j < l.length ∧ enF l j = f) ∧ ∀ N : RdN, N.T' = T → N.l' = l → N.k = k → N.f = f → N.fj = j →
    FnCs 9 (csFind fh N) ∧ FnCs 14 (csFind32 fh N) := by
  have h1 := find_fn h hk
  have h2 := fnFind32 h.hi h.ad hk
  rcases (find_ok h k).2 with ⟨q1, q2⟩ | ⟨j, e, q1, q2, q3⟩
  · rw [q2] at h1
    rw [q1] at h2
    refine ⟨false, en0, 0, (fun z => by cases z), ?_⟩
    rintro ⟨T0, T', l0, l', a, n, x, k', e, x1, b1, f, fj, gx, gj⟩ rfl rfl rfl _ _
    exact ⟨h1, h2⟩
  · rw [q3] at h1
    rw [q1] at h2
    refine ⟨true, e, j, fun _ => ⟨(List.getElem?_eq_some_iff.1 q2).1, enF_get q2⟩, ?_⟩
    rintro ⟨T0, T', l0, l', a, n, x, k', e', x1, b1, f, fj, gx, gj⟩ rfl rfl rfl rfl rfl
    exact ⟨h1, h2⟩
theorem get_part {T : PT} {l : List En} {a n : Int} (h : TrOk T l l.length) (ha : 0 ≤ a ∧ a ≤ 4294967295) : ∃ (gh : Bool) (x : Int) (j : Nat), (gh = true → j < l.length ∧ (enF l j).x = x) ∧ ∀ N : RdN, N.T' = T → N.l' = l → N.a = a → N.n = n → N.gx = x → N.gj = j →
    FnCs 15 (csGet gh N) ∧ FnCs 16 (csAt gh N) := by
  have h1 := get_fn (pn := n) h ha
  have h2 := fnAt (L := enF l) h.hi a n
  rcases at_law a n l with ⟨q1, q2, q3⟩ | ⟨j, e, q1, q2, q3, q4, q5⟩
  · rw [q2] at h1
    unfold atE at q1
    rw [q1] at h2
    refine ⟨false, 0, 0, (fun z => by cases z), ?_⟩
    rintro ⟨T0, T', l0, l', a, n, x, k', e, x1, b1, f, fj, gx, gj⟩ rfl rfl rfl rfl _ _
    exact ⟨h1, h2⟩
  · rw [q3] at h1
    unfold atE at q1
    rw [q1] at h2
    refine ⟨true, e.x, j, fun _ => ⟨(List.getElem?_eq_some_iff.1 q2).1, by rw [enF_get q2]⟩, ?_⟩
    rintro ⟨T0, T', l0, l', a, n, x, k', e', x1, b1, f, fj, gx, gj⟩ rfl rfl rfl rfl rfl rfl
    exact ⟨h1, h2⟩
theorem plays_round {len i : Nat} {A : Nat → Ac32} {T : PT} {l : List En} (hl : len ≤ 150) (hi : i < len) (hA : okAc (A i)) (h : TrOk T l l.length) : ∃ T' l', TrOk T' l' l'.length ∧ CodeOk Try.prog 1 (loopOf Try.f4 0) (pS len A T l i) .normal (pS len A T' l' (i + 1)) := by
  rcases hq : A i with ⟨d, a, n, x, k⟩
  rw [hq] at hA
  obtain ⟨ha, hk⟩ := hA
  simp only at ha hk
  cases d with
  | true =>
    obtain ⟨T', p1, o1⟩ := drop_fn (pn := n) h ha
    have p2 := fnDrop32 (a := a) (n := n) h.hi
    refine ⟨T', _, o1, ?_⟩
    obtain ⟨fh, f, fj, f1, f2⟩ := find_part o1 hk
    obtain ⟨gh, gx, gj, g1, g2⟩ := get_part (n := n) o1 ha
    let N : RdN := ⟨T, T', l, (drE a n l).l, a, n, x, k, 0, (drE a n l).x, (drE a n l).b, f, fj, gx, gj⟩
    obtain ⟨f3, f4⟩ := f2 N rfl rfl rfl rfl rfl
    obtain ⟨g3, g4⟩ := g2 N rfl rfl rfl rfl rfl rfl
    have ih : ∀ fh gh, FnCs 9 (csFind fh N) → FnCs 14 (csFind32 fh N) → FnCs 15 (csGet gh N) → FnCs 16 (csAt gh N) → RdOk true fh gh N := fun fh gh z1 z2 z3 z4 => ⟨p1, p2, z1, z2, z3, z4, len_f _⟩
    cases fh <;> cases gh
    · exact pl_100 N (ih _ _ f3 f4 g3 g4) len i A hl hi hq
    · exact pl_101 N (ih _ _ f3 f4 g3 g4) len i A hl hi hq (g1 rfl).1 (g1 rfl).2
    · exact pl_110 N (ih _ _ f3 f4 g3 g4) len i A hl hi hq (f1 rfl).1 (f1 rfl).2
    · exact pl_111 N (ih _ _ f3 f4 g3 g4) len i A hl hi hq (f1 rfl).1 (f1 rfl).2 (g1 rfl).1 (g1 rfl).2
  | false =>
    obtain ⟨T', p1, o1⟩ := put_fn (pn := n) x h ha
    have p2 := fnPut32 (a := a) (n := n) (x := x) ha h.hi
    refine ⟨T', _, o1, ?_⟩
    obtain ⟨fh, f, fj, f1, f2⟩ := find_part o1 hk
    obtain ⟨gh, gx, gj, g1, g2⟩ := get_part (n := n) o1 ha
    let N : RdN := ⟨T, T', l, (puE a n x l).l, a, n, x, k, (puE a n x l).e, 0, false, f, fj, gx, gj⟩
    obtain ⟨f3, f4⟩ := f2 N rfl rfl rfl rfl rfl
    obtain ⟨g3, g4⟩ := g2 N rfl rfl rfl rfl rfl rfl
    have ih : ∀ fh gh, FnCs 9 (csFind fh N) → FnCs 14 (csFind32 fh N) → FnCs 15 (csGet gh N) → FnCs 16 (csAt gh N) → RdOk false fh gh N := fun fh gh z1 z2 z3 z4 => ⟨p1, p2, z1, z2, z3, z4, len_f _⟩
    cases fh <;> cases gh
    · exact pl_000 N (ih _ _ f3 f4 g3 g4) len i A hl hi hq
    · exact pl_001 N (ih _ _ f3 f4 g3 g4) len i A hl hi hq (g1 rfl).1 (g1 rfl).2
    · exact pl_010 N (ih _ _ f3 f4 g3 g4) len i A hl hi hq (f1 rfl).1 (f1 rfl).2
    · exact pl_011 N (ih _ _ f3 f4 g3 g4) len i A hl hi hq (f1 rfl).1 (f1 rfl).2 (g1 rfl).1 (g1 rfl).2
theorem plays_loop {len : Nat} {A : Nat → Ac32} (hl : len ≤ 150) (hA : ∀ i, i < len → okAc (A i)) : ∀ (m i : Nat) (T : PT) (l : List En), i + m = len → TrOk T l l.length → ∃ T' l', TrOk T' l' l'.length ∧ LoopOk Try.prog 1 (loopOf Try.f4 0) (pS len A T l i) (.exit 0) (pS1 len A T' l')
  | 0, i, T, l, hm, h => by
    have : i = len := by omega
    subst this
    exact ⟨T, l, h, LoopOk.last (by simp) (pl_x ⟨T, l⟩ ⟨all_fn h⟩ i A hl)⟩
  | m + 1, i, T, l, hm, h => by
    obtain ⟨T1, l1, h1, c1⟩ := plays_round (i := i) hl (by omega) (hA i (by omega)) h
    obtain ⟨T2, l2, h2, c2⟩ := plays_loop hl hA m (i + 1) T1 l1 (by omega) h1
    exact ⟨T2, l2, h2, LoopOk.step c1 c2⟩
theorem all_loop {len : Nat} {A : Nat → Ac32} (N : PeN) (ih : PeOk N) (hl : N.l.length ≤ 4096) : ∀ (m i : Nat), i + m = N.l.length → LoopOk Try.prog 1 (loopOf Try.f4 1) (mkSt 197 [(4, .nv (.one (.own 1))), (21, .nv (.one (.own 2))), (181, iA N.l.length), (182, iA i)] [.ro 5 len (gAc A), .row 46 3 N.l.length (gEn (enF N.l)), .row 28 2 N.l.length (gPf (pfF N.l))]) (.exit 2) (mkSt 197 [] [.ro 5 len (gAc A)])
  | 0, i, hm => by
    have : i = N.l.length := by omega
    subst this
    exact LoopOk.last (by simp) (pe_x N ih len A hl)
  | m + 1, i, hm => LoopOk.step (pe_r N ih len A i (by omega) hl) (all_loop N ih hl m (i + 1) (by omega))
theorem plays32_law (len : Nat) (A : Nat → Ac32) (hA : ∀ i, i < len → okAc (A i)) : LawOk Try.prog 4 [.nv (.one (.own 0))] [.ro 5 len (gAc A)] (bA true) := by
  by_cases hl : 150 < len
  · exact pl_l ⟨emT, []⟩ ⟨all_fn em_ok⟩ len A hl
  have hl : len ≤ 150 := by omega
  obtain ⟨T, l, h, c⟩ := plays_loop hl hA len 0 emT [] (by omega) em_ok
  exact pl_f ⟨T, l⟩ ⟨all_fn h⟩ len A (enF []) hl h.hi c.code (all_loop ⟨T, l⟩ ⟨all_fn h⟩ h.hi l.length 0 (by show 0 + l.length = l.length; omega)).code
/-! what comes in -/
abbrev psA32 : Shs := .cons 0 1 .bool (.cons 1 2 (.agg 2 (.cons 0 1 (.int .u32) (.cons 1 1 (.int .i64) .nil))) (.cons 3 1 (.int .i64) (.cons 4 1 (.int .u32) .nil)))
abbrev psB32 : Shs := .cons 0 1 .bool (.cons 1 1 (.int .u32) (.cons 2 1 (.int .i64) (.cons 3 1 (.int .i64) (.cons 4 1 (.int .u32) .nil))))
theorem reads_slice {w : World} {n : Nat} {s s' : Sh} (h : ∀ e, Reads w s e → Reads w s' e) {cs : List Value} (hr : Reads w (.slice n s) cs) : Reads w (.slice n s') cs := by
  obtain ⟨ao, len, cap, es, h0, h1, h2, h3, h4, h5⟩ := hr
  exact ⟨ao, len, cap, es, h0, h1, h2, h3, h4, fun i e q => ⟨(h5 i e q).1, h _ (h5 i e q).2.1, (h5 i e q).2.2⟩⟩
theorem flat32 {w : World} (e : List Value) (h : Reads w (.agg 5 psA32) e) : Reads w (.agg 5 psB32) e := by
  obtain ⟨hl, h0, ⟨hl2, h1, h2, _⟩, h3, h4, _⟩ := h
  match e, hl with
  | [c0, c1, c2, c3, c4], _ => exact ⟨rfl, h0, h1, h2, h3, h4, trivial⟩
def acEs32 (es : Nat → List Value) : Nat → Ac32 := fun k => ⟨cB (es k) 0, cI (es k) 1, cI (es k) 2, cI (es k) 3, cI (es k) 4⟩
theorem plays32_walk (a0 : Option Addr) (len cap : Nat) (w : World) (r0 : Reads w (.slice 5 (.agg 5 psA32)) (Value.slice a0 len cap).cells.toList) :
    Calls Try.prog 4 #[.slice a0 len cap] w fun e w' => e = .returned (.bool true) ∧ Ext w w' := by
  obtain ⟨es, b1, hs⟩ := rows_seg (h := 0) (n := 5) (ps := psB32) (Env.put_same (env := noEnv) 0 (.slice a0 len cap)) rfl rfl (reads_slice flat32 r0)
  refine (plays32_law len (acEs32 es) (fun i hi => ?_) _ [.slice a0 len cap] w ⟨⟨Env.put_same (env := noEnv) 0 (.slice a0 len cap), _, _, _, rfl⟩, trivial⟩ (one_ro hs)).mono ?_
  · obtain ⟨_, c1, _, _, c4, _⟩ := b1 i hi
    exact ⟨c1, c4⟩
  rintro e w' ⟨u, rfl, hu, hx⟩
  exact ⟨by rw [show u = .bool true from hu], hx⟩
end Go.Proofs.Ytfienpkogkepkaa
