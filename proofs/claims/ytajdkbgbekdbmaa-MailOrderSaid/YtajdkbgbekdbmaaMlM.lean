/- Runs of Go code, as printed by a program: no condition beyond those that each states. -/
import Derived.Test.YtajdkbgbekdbmaaMlL
import Derived.Test.YtajdkbgbekdbmaaChecked
import Derived.KernelRfl
namespace Go.Proofs.Ytajdkbgbekdbmaa
set_option linter.unusedVariables false
set_option linter.unusedSimpArgs false
set_option maxRecDepth 100000
open Go.RowKit E
set_option maxHeartbeats 2000000 in
theorem smr (N i : Nat) (F G : Nat → Int) (hN : N ≤ 1000000) (hi : i < N) (he : F i = G i) : CodeOk Try.prog 2 (loopOf Try.f11 0) (mkSt 26 [(0, .nv (.one (.own 0))), (1, .nv (.one (.own 1))), (5, iA i)] [.ro 1 N (fun i => [.val (.int .i64 (F i))]), .ro 1 N (fun i => [.val (.int .i64 (G i))])]) .normal (mkSt 26 [(0, .nv (.one (.own 0))), (1, .nv (.one (.own 1))), (5, iA (i + 1 : Nat))] [.ro 1 N (fun i => [.val (.int .i64 (F i))]), .ro 1 N (fun i => [.val (.int .i64 (G i))])]) :=
  code_run G0_ok (orc := ⟨[true, false], []⟩) (obl := [decide ((↑i : Int) < (↑N : Int)) = true,
      (0 : Int) ≤ (↑i : Int),
      (↑i : Int) < (↑N : Int),
      Int.toNat (↑i : Int) < N,
      (0 : Int) ≤ (↑i : Int),
      (↑i : Int) < (↑N : Int),
      Int.toNat (↑i : Int) < N,
      (F (Int.toNat (↑i : Int)) != G (Int.toNat (↑i : Int))) = false,
      IntKind.wrap IntKind.i64 ((↑i : Int) + (1 : Int)) = (↑(i + (1 : Nat)) : Int),
      N = N,
      ∀ (i : Nat), i < N → F i = F i ∧ True,
      N = N,
      ∀ (i : Nat), i < N → G i = G i ∧ True]) (by kernel_rfl) (.cons (by exact decide_eq_true (by omega)) (.cons (by omega) (.cons (by omega) (.cons (by assumption) (.cons (by omega) (.cons (by omega) (.cons (by assumption) (.cons (by exact bne_eq_false_iff_eq.2 he) (.cons (by exact w64 (by omega) (by omega)) (.cons (by rfl) (.cons (by (intro _ _; exact ⟨rfl, trivial⟩)) (.cons (by rfl) (.cons (by (intro _ _; exact ⟨rfl, trivial⟩)) .nil))))))))))))) (Nat.le_of_ble_eq_true (by kernel_rfl))

set_option maxHeartbeats 2000000 in
theorem sme (N : Nat) (F G : Nat → Int) (hN : N ≤ 1000000) : CodeOk Try.prog 2 (loopOf Try.f11 0) (mkSt 26 [(0, .nv (.one (.own 0))), (1, .nv (.one (.own 1))), (5, iA N)] [.ro 1 N (fun i => [.val (.int .i64 (F i))]), .ro 1 N (fun i => [.val (.int .i64 (G i))])]) (.exit 0) (mkSt 26 [] [.ro 1 N (fun i => [.val (.int .i64 (F i))]), .ro 1 N (fun i => [.val (.int .i64 (G i))])]) :=
  code_run G0_ok (orc := ⟨[false], []⟩) (obl := [decide ((↑N : Int) < (↑N : Int)) = false,
      N = N,
      ∀ (i : Nat), i < N → F i = F i ∧ True,
      N = N,
      ∀ (i : Nat), i < N → G i = G i ∧ True]) (by kernel_rfl) (.cons (by exact decide_eq_false (by omega)) (.cons (by rfl) (.cons (by (intro _ _; exact ⟨rfl, trivial⟩)) (.cons (by rfl) (.cons (by (intro _ _; exact ⟨rfl, trivial⟩)) .nil))))) (Nat.le_of_ble_eq_true (by kernel_rfl))

set_option maxHeartbeats 2000000 in
theorem smt (N : Nat) (F G : Nat → Int) (hN : N ≤ 1000000) (l : CodeOk Try.prog 2 (.loop (loopOf Try.f11 0)) (mkSt 26 [(0, .nv (.one (.own 0))), (1, .nv (.one (.own 1))), (5, iA (0 : Nat))] [.ro 1 N (fun i => [.val (.int .i64 (F i))]), .ro 1 N (fun i => [.val (.int .i64 (G i))])]) (.exit 0) (mkSt 26 [] [.ro 1 N (fun i => [.val (.int .i64 (F i))]), .ro 1 N (fun i => [.val (.int .i64 (G i))])])) : FnOk Try.prog 11 ([.nv (.one (.own 0)), .nv (.one (.own 1))]) ([.ro 1 N (fun i => [.val (.int .i64 (F i))]), .ro 1 N (fun i => [.val (.int .i64 (G i))])]) (bA true) ([.gone, .gone]) :=
  fn_run G0_ok Try.func11 (orc := ⟨[false], [⟨mkSt 26 [(0, .nv (.one (.own 0))), (1, .nv (.one (.own 1))), (5, iA (0 : Nat))] [.ro 1 N (fun i => [.val (.int .i64 (F i))]), .ro 1 N (fun i => [.val (.int .i64 (G i))])], .exit 0, mkSt 26 [] [.ro 1 N (fun i => [.val (.int .i64 (F i))]), .ro 1 N (fun i => [.val (.int .i64 (G i))])]⟩]⟩) (obl := [((↑N : Int) != (↑N : Int)) = false,
      (0 : Int) = (↑(0 : Nat) : Int),
      N = N,
      ∀ (i : Nat), i < N → F i = F i ∧ True,
      N = N,
      ∀ (i : Nat), i < N → G i = G i ∧ True,
      (2 : Nat) ≤ (2 : Nat),
      CodeOk Try.prog (2 : Nat) (Code.loop (loopOf Try.f11 (0 : Nat))) (mkSt (26 : Nat) [((0 : Nat), SV.nv (NV.one (At.own (0 : Nat)))), ((1 : Nat), SV.nv (NV.one (At.own (1 : Nat)))), ((5 : Nat), iA (↑(0 : Nat) : Int))] [Seg.ro (1 : Nat) N fun (i : Nat) => [At.val (Value.int IntKind.i64 (F i))], Seg.ro (1 : Nat) N fun (i : Nat) => [At.val (Value.int IntKind.i64 (G i))]]) (Ex.exit (0 : Nat)) (mkSt (26 : Nat) [] [Seg.ro (1 : Nat) N fun (i : Nat) => [At.val (Value.int IntKind.i64 (F i))], Seg.ro (1 : Nat) N fun (i : Nat) => [At.val (Value.int IntKind.i64 (G i))]]),
      true = true]) (by kernel_rfl) (.cons (by exact bne_eq_false_iff_eq.2 (by omega)) (.cons (by rfl) (.cons (by rfl) (.cons (by (intro _ _; exact ⟨rfl, trivial⟩)) (.cons (by rfl) (.cons (by (intro _ _; exact ⟨rfl, trivial⟩)) (.cons (by trivial) (.cons (by assumption) (.cons (by rfl) .nil))))))))) (Nat.le_of_ble_eq_true (by kernel_rfl))

set_option maxHeartbeats 2000000 in
theorem may_lo (n : Int) (h : n < 1) : PureOk Try.prog 12 ([iA n]) (bA false) :=
  pure_run G0_ok Try.func12 (orc := ⟨[false], []⟩) (obl := [decide (n ≥ (1 : Int)) = false,
      false = false]) (by kernel_rfl) (.cons (by exact decide_eq_false (by omega)) (.cons (by rfl) .nil))

set_option maxHeartbeats 2000000 in
theorem may_hi (n : Int) (h : 4096 < n) : PureOk Try.prog 12 ([iA n]) (bA false) :=
  pure_run G0_ok Try.func12 (orc := ⟨[true], []⟩) (obl := [decide (n ≥ (1 : Int)) = true,
      decide (n ≤ (4096 : Int)) = false]) (by kernel_rfl) (.cons (by exact decide_eq_true (by omega)) (.cons (by exact decide_eq_false (by omega)) .nil))

set_option maxHeartbeats 2000000 in
theorem may_ok (n : Int) (h : 1 ≤ n) (h2 : n ≤ 4096) : PureOk Try.prog 12 ([iA n]) (bA true) :=
  pure_run G0_ok Try.func12 (orc := ⟨[true], []⟩) (obl := [decide (n ≥ (1 : Int)) = true,
      decide (n ≤ (4096 : Int)) = true]) (by kernel_rfl) (.cons (by exact decide_eq_true (by omega)) (.cons (by exact decide_eq_true (by omega)) .nil))

set_option maxHeartbeats 2000000 in
theorem rsnd_sh (m x : Int) (n : Nat) (T : Nat → Int) : FnOk Try.prog 18 ([pz, iA x]) ([.box 38 [.val (.int .i64 m), .val (.bool true), .own 1], .row 3 1 n (fun i => [.val (.int .i64 (T i))])]) (bA false) ([.box 38 [.val (.int .i64 m), .val (.bool true), .own 2], .gone, .row 3 1 n (fun i => [.val (.int .i64 (T i))])]) :=
  fn_run G0_ok Try.func18 (orc := ⟨[true, true], []⟩) (obl := [true = true,
      true = true,
      false = false,
      m = m,
      true = true,
      n = n,
      ∀ (i : Nat), i < n → T i = T i ∧ True]) (by kernel_rfl) (.cons (by rfl) (.cons (by rfl) (.cons (by rfl) (.cons (by rfl) (.cons (by rfl) (.cons (by rfl) (.cons (by (intro _ _; exact ⟨rfl, trivial⟩)) .nil))))))) (Nat.le_of_ble_eq_true (by kernel_rfl))

set_option maxHeartbeats 2000000 in
theorem rsnd_f (m x : Int) (n : Nat) (T : Nat → Int) (h : ¬ (n : Int) < m) : FnOk Try.prog 18 ([pz, iA x]) ([.box 38 [.val (.int .i64 m), .val (.bool false), .own 1], .row 3 1 n (fun i => [.val (.int .i64 (T i))])]) (bA false) ([.box 38 [.val (.int .i64 m), .val (.bool false), .own 2], .gone, .row 3 1 n (fun i => [.val (.int .i64 (T i))])]) :=
  fn_run G0_ok Try.func18 (orc := ⟨[false, true], []⟩) (obl := [false = false,
      decide ((↑n : Int) ≥ m) = true,
      false = false,
      m = m,
      false = false,
      n = n,
      ∀ (i : Nat), i < n → T i = T i ∧ True]) (by kernel_rfl) (.cons (by rfl) (.cons (by exact decide_eq_true (by omega)) (.cons (by rfl) (.cons (by rfl) (.cons (by rfl) (.cons (by rfl) (.cons (by (intro _ _; exact ⟨rfl, trivial⟩)) .nil))))))) (Nat.le_of_ble_eq_true (by kernel_rfl))

set_option maxHeartbeats 2000000 in
theorem rsnd_y (m x : Int) (n : Nat) (T T' : Nat → Int) (h : (n : Int) < m) (hn : n ≤ 100000) (hT : T' n = x) (hT2 : ∀ i, i < n → T i = T' i) : FnOk Try.prog 18 ([pz, iA x]) ([.box 38 [.val (.int .i64 m), .val (.bool false), .own 1], .row 3 1 n (fun i => [.val (.int .i64 (T i))])]) (bA true) ([.box 38 [.val (.int .i64 m), .val (.bool false), .own 2], .gone, .row 3 1 (n + 1) (fun i => [.val (.int .i64 (T' i))])]) :=
  fn_run G0_ok Try.func18 (orc := ⟨[false, false], []⟩) (obl := [false = false,
      decide ((↑n : Int) ≥ m) = false,
      n + (1 : Nat) ≤ (4611686018427387904 : Nat),
      (n + (1 : Nat)) * (8 : Nat) ≤ (140737488355328 : Nat),
      true = true,
      m = m,
      false = false,
      n + (1 : Nat) = n + (1 : Nat),
      ∀ (i : Nat), i < n + (1 : Nat) → AllT (leAts ([(nat_lit 1, Bd.same (nat_lit 1)), (nat_lit 0, Bd.same (nat_lit 0))] ++ ([] ++ []) ++ ([] ++ ([] ++ ([] ++ ([((2 : Nat), Bd.same (3 : Nat))] ++ [])) ++ []) ++ ([] ++ [] ++ []))) (3 : Nat) (if i = n then [At.val (Value.int IntKind.i64 x)] else [At.val (Value.int IntKind.i64 (T i))]) [At.val (Value.int IntKind.i64 (T' i))])]) (by kernel_rfl) (.cons (by rfl) (.cons (by exact decide_eq_false (by omega)) (.cons (by omega) (.cons (by omega) (.cons (by rfl) (.cons (by rfl) (.cons (by rfl) (.cons (by rfl) (.cons (by (refine leG_eq (fun j hj => gI_step hT hT2 hj) (fun _ _ => rfl))) .nil))))))))) (Nat.le_of_ble_eq_true (by kernel_rfl))

set_option maxHeartbeats 2000000 in
theorem rtak_0 (m : Int) (sh : Bool) (T : Nat → Int) : FnOk Try.prog 14 ([pz]) ([.box 38 [.val (.int .i64 m), .val (.bool sh), .own 1], .row 3 1 0 (fun i => [.val (.int .i64 (T i))])]) (.tup [.one (.val (.int .i64 0)), .one (.val (.bool false))]) ([.box 38 [.val (.int .i64 m), .val (.bool sh), .own 2], .gone, .row 3 1 0 (fun i => [.val (.int .i64 (T i))])]) :=
  fn_run G0_ok Try.func14 (orc := ⟨[true], []⟩) (obl := [((↑(0 : Nat) : Int) == (0 : Int)) = true,
      (0 : Int) = (0 : Int),
      false = false,
      m = m,
      sh = sh,
      (0 : Nat) = (0 : Nat),
      ∀ (i : Nat), i < (0 : Nat) → T i = T i ∧ True]) (by kernel_rfl) (.cons (by rfl) (.cons (by rfl) (.cons (by rfl) (.cons (by rfl) (.cons (by rfl) (.cons (by rfl) (.cons (by (intro _ _; exact ⟨rfl, trivial⟩)) .nil))))))) (Nat.le_of_ble_eq_true (by kernel_rfl))

set_option maxHeartbeats 2000000 in
theorem rtak_y (m : Int) (sh : Bool) (n : Nat) (T T' : Nat → Int) (hn : n ≤ 100000) (hT : ∀ i, i < n → T (i + 1) = T' i) : FnOk Try.prog 14 ([pz]) ([.box 38 [.val (.int .i64 m), .val (.bool sh), .own 1], .row 3 1 (n + 1) (fun i => [.val (.int .i64 (T i))])]) (.tup [.one (.val (.int .i64 (T 0))), .one (.val (.bool true))]) ([.box 38 [.val (.int .i64 m), .val (.bool sh), .own 2], .gone, .row 3 1 n (fun i => [.val (.int .i64 (T' i))])]) :=
  fn_run G0_ok Try.func14 (orc := ⟨[false], []⟩) (obl := [((↑(n + (1 : Nat)) : Int) == (0 : Int)) = false,
      (0 : Int) ≤ (0 : Int),
      (0 : Int) < (↑(n + (1 : Nat)) : Int),
      (0 : Nat) < n + (1 : Nat),
      (0 : Int) ≤ Prod.snd (IntKind.i64, (1 : Int)),
      Prod.snd (IntKind.i64, (1 : Int)) ≤ (↑(n + (1 : Nat)) : Int),
      (1 : Nat) + (n + (1 : Nat) - Int.toNat (Prod.snd (IntKind.i64, (1 : Int)))) ≤ n + (1 : Nat),
      n + (1 : Nat) - Int.toNat (Prod.snd (IntKind.i64, (1 : Int))) ≤ (4611686018427387904 : Nat),
      (n + (1 : Nat) - Int.toNat (Prod.snd (IntKind.i64, (1 : Int)))) * (8 : Nat) ≤ (140737488355328 : Nat),
      T (0 : Nat) = T (0 : Nat),
      true = true,
      m = m,
      sh = sh,
      n + (1 : Nat) - Int.toNat (Prod.snd (IntKind.i64, (1 : Int))) = n,
      ∀ (i : Nat), i < n + (1 : Nat) - Int.toNat (Prod.snd (IntKind.i64, (1 : Int))) → T ((1 : Nat) + i) = T' i ∧ True]) (by kernel_rfl) (.cons (by rfl) (.cons (by trivial) (.cons (by omega) (.cons (by omega) (.cons (by trivial) (.cons (by omega) (.cons (by omega) (.cons (by omega) (.cons (by omega) (.cons (by rfl) (.cons (by rfl) (.cons (by rfl) (.cons (by rfl) (.cons (by rfl) (.cons (by (intro i hi; exact ⟨tl_eq hT hi, trivial⟩)) .nil))))))))))))))) (Nat.le_of_ble_eq_true (by kernel_rfl))
end Go.Proofs.Ytajdkbgbekdbmaa
