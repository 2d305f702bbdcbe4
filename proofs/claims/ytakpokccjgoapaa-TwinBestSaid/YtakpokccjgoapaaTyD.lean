/- Runs of Go code, as printed by a program: no condition beyond those that each states. -/
import Derived.Test.YtakpokccjgoapaaTyC
import Derived.Test.YtakpokccjgoapaaChecked
import Derived.KernelRfl
namespace Go.Proofs.Ytakpokccjgoapaa
set_option linter.unusedVariables false
set_option linter.unusedSimpArgs false
set_option maxRecDepth 100000
open Go.RowKit E
set_option maxHeartbeats 2000000 in
theorem bf_n (len n N nt k : Nat) (c : Int) (R : Nat → Int) (T : Tw Int) (L : It) (hk : k < N) (hN : N ≤ len) (hl : len ≤ 300) (hnt : nt ≤ 100000) (e1 : atR T nt 0 = L.r k) (e2 : atX 0 T nt 0 = L.x k) (e3 : isP nt 0 = true) : CodeOk Try.prog 1 (loopOf Try.f5 1) (mkSt 106 [(6, .nv (.one (.ptr 1 0))), (8, .nv (.one (.own 3))), (69, iA N), (70, iA k)] (beMem len n nt len c R T L)) .normal (mkSt 106 [(6, .nv (.one (.ptr 1 0))), (8, .nv (.one (.own 3))), (69, iA N), (70, iA (k + 1 : Nat))] (beMem len n (nt - 1) len c R (T.popL nt) L)) :=
  code_run Gps_ok (orc := ⟨[true, false, false, false], []⟩) (obl := [decide ((↑k : Int) < (↑N : Int)) = true,
      nt ≤ (100000 : Nat),
      (0 : Nat) = (0 : Nat),
      c = c,
      (↑n : Int) = (↑n : Int),
      nt = nt,
      ∀ (i : Nat), i < nt → Tw.r T i = Tw.r (twI (gTi T)) i ∧ Tw.c T i = Tw.c (twI (gTi T)) i ∧ Tw.x T i = Tw.x (twI (gTi T)) i ∧ True,
      ∀ (i : Nat), i < nt - (1 : Nat) → (true && (true && (true && true))) = true,
      (!isP nt (0 : Int)) = false,
      (0 : Int) ≤ (↑k : Int),
      (↑k : Int) < (↑len : Int),
      Int.toNat (↑k : Int) < len,
      (atR (twI (gTi T)) nt (0 : Int) != It.r L (Int.toNat (↑k : Int))) = false,
      (0 : Int) ≤ (↑k : Int),
      (↑k : Int) < (↑len : Int),
      Int.toNat (↑k : Int) < len,
      (atX (0 : Int) (twI (gTi T)) nt (0 : Int) != It.x L (Int.toNat (↑k : Int))) = false,
      (0 : Nat) = (0 : Nat),
      (↑N : Int) = (↑N : Int),
      IntKind.wrap IntKind.i64 ((↑k : Int) + (1 : Int)) = (↑(k + (1 : Nat)) : Int),
      len = len,
      ∀ (i : Nat), i < len → R i = R i ∧ True,
      c = c,
      (↑n : Int) = (↑n : Int),
      nt - (1 : Nat) = nt - (1 : Nat),
      ∀ (i : Nat), i < nt - (1 : Nat) → Tw.r (Tw.popL (twI (gTi T)) nt) i = Tw.r (Tw.popL T nt) i ∧ Tw.c (Tw.popL (twI (gTi T)) nt) i = Tw.c (Tw.popL T nt) i ∧ Tw.x (Tw.popL (twI (gTi T)) nt) i = Tw.x (Tw.popL T nt) i ∧ True,
      len = len,
      ∀ (i : Nat), i < len → It.r L i = It.r L i ∧ It.x L i = It.x L i ∧ True]) (by kernel_rfl) (.cons (by exact decide_eq_true (by omega)) (.cons (by assumption) (.cons (by rfl) (.cons (by rfl) (.cons (by rfl) (.cons (by rfl) (.cons (by (intro _ _; exact ⟨rfl, rfl, rfl, trivial⟩)) (.cons (by (intro _ _; rfl)) (.cons (by (simp [*]; done)) (.cons (by omega) (.cons (by omega) (.cons (by omega) (.cons (by exact bne_eq_false_iff_eq.2 e1) (.cons (by omega) (.cons (by omega) (.cons (by omega) (.cons (by exact bne_eq_false_iff_eq.2 e2) (.cons (by rfl) (.cons (by rfl) (.cons (by exact w64 (by omega) (by omega)) (.cons (by rfl) (.cons (by (intro _ _; exact ⟨rfl, trivial⟩)) (.cons (by rfl) (.cons (by rfl) (.cons (by rfl) (.cons (by (intro _ _; exact ⟨rfl, rfl, rfl, trivial⟩)) (.cons (by rfl) (.cons (by (intro _ _; exact ⟨rfl, rfl, trivial⟩)) .nil)))))))))))))))))))))))))))) (Nat.le_of_ble_eq_true (by kernel_rfl))

set_option maxHeartbeats 2000000 in
theorem bf_e (len n N nt : Nat) (c : Int) (R : Nat → Int) (T : Tw Int) (L : It) : CodeOk Try.prog 1 (loopOf Try.f5 1) (mkSt 106 [(6, .nv (.one (.ptr 1 0))), (8, .nv (.one (.own 3))), (69, iA N), (70, iA N)] (beMem len n nt len c R T L)) (.exit 2) (mkSt 106 [(6, .nv (.one (.ptr 1 0)))] (beMem len n nt len c R T L)) :=
  code_run Gps_ok (orc := ⟨[false], []⟩) (obl := [decide ((↑N : Int) < (↑N : Int)) = false,
      (0 : Nat) = (0 : Nat),
      len = len,
      ∀ (i : Nat), i < len → R i = R i ∧ True,
      c = c,
      (↑n : Int) = (↑n : Int),
      nt = nt,
      ∀ (i : Nat), i < nt → Tw.r T i = Tw.r T i ∧ Tw.c T i = Tw.c T i ∧ Tw.x T i = Tw.x T i ∧ True,
      len = len,
      ∀ (i : Nat), i < len → It.r L i = It.r L i ∧ It.x L i = It.x L i ∧ True]) (by kernel_rfl) (.cons (by exact decide_eq_false (by omega)) (.cons (by rfl) (.cons (by rfl) (.cons (by (intro _ _; exact ⟨rfl, trivial⟩)) (.cons (by rfl) (.cons (by rfl) (.cons (by rfl) (.cons (by (simp; done)) (.cons (by rfl) (.cons (by (simp; done)) .nil)))))))))) (Nat.le_of_ble_eq_true (by kernel_rfl))

set_option maxHeartbeats 2000000 in
theorem be_l (len : Nat) (R : Nat → Int) (rm : Int) (hl : 300 < len) : LawOk Try.prog 5 ([.nv (.one (.val (.int .u8 rm))), .nv (.one (.own 0))]) ([.ro 1 len (rkT R)]) (bA true) :=
  law_run Gps_ok Try.func5 (orc := ⟨[true], []⟩) (obl := [decide ((↑len : Int) > (300 : Int)) = true,
      true = true]) (by kernel_rfl) (.cons (by exact decide_eq_true (by omega)) (.cons (by rfl) .nil))
end Go.Proofs.Ytakpokccjgoapaa
