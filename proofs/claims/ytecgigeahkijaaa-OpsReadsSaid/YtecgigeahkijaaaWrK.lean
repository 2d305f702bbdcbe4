/- Runs of Go code, as printed by a program: no condition beyond those that each states. -/
import Derived.Test.YtecgigeahkijaaaWrJ
import Derived.Test.YtecgigeahkijaaaChecked
import Derived.KernelRfl
namespace Go.Proofs.Ytecgigeahkijaaa
set_option linter.unusedVariables false
set_option linter.unusedSimpArgs false
set_option maxRecDepth 100000
open Go.RowKit E
set_option maxHeartbeats 2000000 in
theorem pv_n (n N : Nat) (F H : Nat → Int) (v : Int) (hv : 128 ≤ v) (h1 : v ≤ 18446744073709551615) (hn : n + 1 ≤ 140737488355328) (e1 : IntKind.wrap IntKind.u64 (Int.tdiv v 128) = v / 128) (e2 : IntKind.wrap IntKind.u8 (IntKind.wrap IntKind.u64 (Int.tmod v 128 + 128)) = v % 128 + 128) (e3 : n + 1 = N) (e4 : ∀ i, i < n + 1 → catF n F [v % 128 + 128] i = H i) : CodeOk Try.prog 2 (loopOf Try.f35 0) (mkSt 18 [(0, .nv (.one (.ptr 0 0))), (1, uA v)] (bldP n F)) .normal (mkSt 18 [(0, .nv (.one (.ptr 0 0))), (1, uA (v / 128))] (bldP N H)) :=
  code_run Gb5_ok (orc := ⟨[true], []⟩) (obl := [decide (v ≥ (128 : Int)) = true,
      (128 : Int) ≠ (0 : Int),
      n + (1 : Nat) ≤ (140737488355328 : Nat),
      (0 : Nat) = (0 : Nat),
      IntKind.wrap IntKind.u8 (IntKind.wrap IntKind.u64 (Int.tmod v (128 : Int) + (128 : Int))) = IntKind.wrap IntKind.u8 (IntKind.wrap IntKind.u64 (Int.tmod v (128 : Int) + (128 : Int))),
      n = n,
      ∀ (i : Nat), i < n → F i = F i ∧ True,
      ∀ (i : Nat), i < n + (1 : Nat) → (true && true) = true,
      (128 : Int) ≠ (0 : Int),
      (0 : Nat) = (0 : Nat),
      IntKind.wrap IntKind.u64 (Int.tdiv v (128 : Int)) = v / (128 : Int),
      n + (1 : Nat) = N,
      ∀ (i : Nat), i < n + (1 : Nat) → catF n (fun (k : Nat) => F k) [IntKind.wrap IntKind.u8 (IntKind.wrap IntKind.u64 (Int.tmod v (128 : Int) + (128 : Int)))] i = H i ∧ True]) (by kernel_rfl) (.cons (by exact decide_eq_true (by omega)) (.cons (by trivial) (.cons (by assumption) (.cons (by rfl) (.cons (by rfl) (.cons (by rfl) (.cons (by (intro _ _; exact ⟨rfl, trivial⟩)) (.cons (by (intro _ _; rfl)) (.cons (by trivial) (.cons (by rfl) (.cons (by assumption) (.cons (by assumption) (.cons (by (intro i hi; simp only [e2]; exact ⟨e4 i hi, trivial⟩)) .nil))))))))))))) (Nat.le_of_ble_eq_true (by kernel_rfl))

set_option maxHeartbeats 2000000 in
theorem pv_e (n : Nat) (F : Nat → Int) (v : Int) (hv : ¬ 128 ≤ v) : CodeOk Try.prog 2 (loopOf Try.f35 0) (mkSt 18 [(0, .nv (.one (.ptr 0 0))), (1, uA v)] (bldP n F)) (.exit 0) (mkSt 18 [(0, .nv (.one (.ptr 0 0))), (1, uA v)] (bldP n F)) :=
  code_run Gb5_ok (orc := ⟨[false], []⟩) (obl := [decide (v ≥ (128 : Int)) = false,
      (0 : Nat) = (0 : Nat),
      v = v,
      n = n,
      ∀ (i : Nat), i < n → F i = F i ∧ True]) (by kernel_rfl) (.cons (by exact decide_eq_false (by omega)) (.cons (by rfl) (.cons (by rfl) (.cons (by rfl) (.cons (by (intro _ _; exact ⟨rfl, trivial⟩)) .nil))))) (Nat.le_of_ble_eq_true (by kernel_rfl))

set_option maxHeartbeats 2000000 in
theorem pv_f (n m N : Nat) (F F0 G H : Nat → Int) (v u : Int) (e0 : ∀ i, i < n → F i = F0 i) (hm : m + 1 ≤ 140737488355328) (eu : IntKind.wrap IntKind.u8 u = u) (e1 : m + 1 = N) (e2 : ∀ i, i < m + 1 → catF m G [u] i = H i) (l0 : CodeOk Try.prog 2 (.loop (loopOf Try.f35 0)) (mkSt 18 [(0, .nv (.one (.ptr 0 0))), (1, uA v)] (bldP n F0)) (.exit 0) (mkSt 18 [(0, .nv (.one (.ptr 0 0))), (1, uA u)] (bldP m G))) : FnOk Try.prog 35 ([.nv (.one (.ptr 0 0)), uA v]) (bldM n F) (.any) (bldP N H) :=
  fn_run Gb5_ok Try.func35 (orc := ⟨[], [⟨mkSt 18 [(0, .nv (.one (.ptr 0 0))), (1, uA v)] (bldP n F0), .exit 0, mkSt 18 [(0, .nv (.one (.ptr 0 0))), (1, uA u)] (bldP m G)⟩]⟩) (obl := [(0 : Nat) = (0 : Nat),
      v = v,
      n = n,
      ∀ (i : Nat), i < n → F i = F0 i ∧ True,
      (2 : Nat) ≤ (3 : Nat),
      CodeOk Try.prog (2 : Nat) (Code.loop (loopOf Try.f35 (0 : Nat))) (mkSt (18 : Nat) [((0 : Nat), SV.nv (NV.one (At.ptr (0 : Nat) (0 : Nat)))), ((1 : Nat), uA v)] (bldP n F0)) (Ex.exit (0 : Nat)) (mkSt (18 : Nat) [((0 : Nat), SV.nv (NV.one (At.ptr (0 : Nat) (0 : Nat)))), ((1 : Nat), uA u)] (bldP m G)),
      m + (1 : Nat) ≤ (140737488355328 : Nat),
      (0 : Nat) = (0 : Nat),
      IntKind.wrap IntKind.u8 u = IntKind.wrap IntKind.u8 u,
      m = m,
      ∀ (i : Nat), i < m → G i = G i ∧ True,
      ∀ (i : Nat), i < m + (1 : Nat) → (true && true) = true,
      m + (1 : Nat) = N,
      ∀ (i : Nat), i < m + (1 : Nat) → catF m (fun (k : Nat) => G k) [IntKind.wrap IntKind.u8 u] i = H i ∧ True]) (by kernel_rfl) (.cons (by rfl) (.cons (by rfl) (.cons (by rfl) (.cons (by (intro i hi; exact ⟨e0 i hi, trivial⟩)) (.cons (by trivial) (.cons (by assumption) (.cons (by assumption) (.cons (by rfl) (.cons (by rfl) (.cons (by rfl) (.cons (by (intro _ _; exact ⟨rfl, trivial⟩)) (.cons (by (intro _ _; rfl)) (.cons (by assumption) (.cons (by (intro i hi; simp only [eu]; exact ⟨e2 i hi, trivial⟩)) .nil)))))))))))))) (Nat.le_of_ble_eq_true (by kernel_rfl))
end Go.Proofs.Ytecgigeahkijaaa
