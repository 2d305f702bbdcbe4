/- Runs of Go code, as printed by a program: no condition beyond those that each states. -/
import Derived.Test.YtajdkbgbekdbmaaMlN
import Derived.Test.YtajdkbgbekdbmaaChecked
import Derived.KernelRfl
namespace Go.Proofs.Ytajdkbgbekdbmaa
set_option linter.unusedVariables false
set_option linter.unusedSimpArgs false
set_option maxRecDepth 100000
open Go.RowKit E
attribute [local irreducible] rtX rtI rtT
set_option maxHeartbeats 2000000 in
theorem rsm_r (n m : Int) (sh : Bool) (k : Nat) (TO T : Nat → Int) (hk : k ≤ 90000) (q : Nat) (hq : q ≤ 90000) (TO' T' : Nat → Int) (hn : (k : Int) < n) (hX : TO' k = rtX (q + 1) T) (hO : ∀ i, i < k → TO i = TO' i) (hT : ∀ i, i < q → rtT (q + 1) T i = T' i) : CodeOk Try.prog 2 (loopOf Try.f16 0) (mkSt 30 [(0, pz), (1, iA n), (5, .nv (.one (.own 2)))] [.box 38 [.val (.int .i64 m), .val (.bool sh), .own 3], .gone, .row 3 1 k (gN TO), .row 3 1 (q + 1) (gN T)]) .normal (mkSt 30 [(0, pz), (1, iA n), (5, .nv (.one (.own 2)))] [.box 38 [.val (.int .i64 m), .val (.bool sh), .own 3], .gone, .row 3 1 (k + 1) (gN TO'), .row 3 1 q (gN T')]) :=
  code_run Gml2_ok (orc := ⟨[true, true], []⟩) (obl := [decide ((↑(q + (1 : Nat)) : Int) > (0 : Int)) = true,
      decide ((↑k : Int) < n) = true,
      q + (1 : Nat) ≤ (100000 : Nat),
      (0 : Nat) = (0 : Nat),
      m = m,
      sh = sh,
      q + (1 : Nat) = q + (1 : Nat),
      ∀ (i : Nat), i < q + (1 : Nat) → T i = nOf (gN T) i ∧ True,
      ∀ (i : Nat), i < q + (1 : Nat) - (1 : Nat) → (true && true) = true,
      k + (1 : Nat) ≤ (4611686018427387904 : Nat),
      (k + (1 : Nat)) * (8 : Nat) ≤ (140737488355328 : Nat),
      (0 : Nat) = (0 : Nat),
      n = n,
      m = m,
      sh = sh,
      k + (1 : Nat) = k + (1 : Nat),
      ∀ (i : Nat), i < k + (1 : Nat) → AllT (leAts ([(nat_lit 1, Bd.same (nat_lit 1)), (nat_lit 0, Bd.same (nat_lit 0))] ++ ([((0 : Nat), Bd.same (0 : Nat))] ++ ([] ++ ([((2 : Nat), Bd.same (6 : Nat))] ++ []))) ++ ([] ++ ([] ++ ([] ++ ([((3 : Nat), Bd.same (4 : Nat))] ++ [])) ++ ([] ++ ([] ++ ([((3 : Nat), Bd.same (4 : Nat))] ++ [])) ++ ([] ++ []))) ++ ([] ++ ([] ++ []) ++ []))) (4 : Nat) (if i = k then [At.val (Value.int IntKind.i64 (rtX (q + (1 : Nat)) (nOf (gN T))))] else gN TO i) (gN TO' i)),
      q + (1 : Nat) - (1 : Nat) = q,
      ∀ (i : Nat), i < q + (1 : Nat) - (1 : Nat) → rtT (q + (1 : Nat)) (nOf (gN T)) i = T' i ∧ True]) (by kernel_rfl) (.cons (by exact decide_eq_true (by omega)) (.cons (by exact decide_eq_true (by omega)) (.cons (by omega) (.cons (by rfl) (.cons (by rfl) (.cons (by rfl) (.cons (by rfl) (.cons (by (intro _ _; exact ⟨rfl, trivial⟩)) (.cons (by (intro _ _; rfl)) (.cons (by omega) (.cons (by omega) (.cons (by rfl) (.cons (by rfl) (.cons (by rfl) (.cons (by rfl) (.cons (by rfl) (.cons (by (refine leG_eq (fun j hj => gI_step hX hO hj) (fun _ _ => rfl))) (.cons (by rfl) (.cons (by (intro i hi; exact ⟨hT i hi, trivial⟩)) .nil))))))))))))))))))) (Nat.le_of_ble_eq_true (by kernel_rfl))

set_option maxHeartbeats 2000000 in
theorem rsm_b (n m : Int) (sh : Bool) (k : Nat) (TO T : Nat → Int) (hk : k ≤ 90000) : CodeOk Try.prog 2 (loopOf Try.f16 0) (mkSt 30 [(0, pz), (1, iA n), (5, .nv (.one (.own 2)))] [.box 38 [.val (.int .i64 m), .val (.bool sh), .own 3], .gone, .row 3 1 k (gN TO), .row 3 1 0 (gN T)]) (.exit 0) (mkSt 30 [(5, .nv (.one (.own 2)))] [.box 38 [.val (.int .i64 m), .val (.bool sh), .own 3], .gone, .row 3 1 k (gN TO), .row 3 1 0 (gN T)]) :=
  code_run Gml2_ok (orc := ⟨[false, false], []⟩) (obl := [decide ((↑(0 : Nat) : Int) > (0 : Int)) = false,
      false = false,
      m = m,
      sh = sh,
      k = k,
      ∀ (i : Nat), i < k → TO i = TO i ∧ True,
      (0 : Nat) = (0 : Nat),
      ∀ (i : Nat), i < (0 : Nat) → T i = T i ∧ True]) (by kernel_rfl) (.cons (by rfl) (.cons (by rfl) (.cons (by rfl) (.cons (by rfl) (.cons (by rfl) (.cons (by (intro _ _; exact ⟨rfl, trivial⟩)) (.cons (by rfl) (.cons (by (intro _ _; exact ⟨rfl, trivial⟩)) .nil)))))))) (Nat.le_of_ble_eq_true (by kernel_rfl))

set_option maxHeartbeats 2000000 in
theorem rsm_e (n m : Int) (sh : Bool) (k : Nat) (TO T : Nat → Int) (hk : k ≤ 90000) (q : Nat) (hq : q ≤ 90000) (hq0 : 0 < q) (hn : ¬ (k : Int) < n) : CodeOk Try.prog 2 (loopOf Try.f16 0) (mkSt 30 [(0, pz), (1, iA n), (5, .nv (.one (.own 2)))] [.box 38 [.val (.int .i64 m), .val (.bool sh), .own 3], .gone, .row 3 1 k (gN TO), .row 3 1 q (gN T)]) (.exit 0) (mkSt 30 [(5, .nv (.one (.own 2)))] [.box 38 [.val (.int .i64 m), .val (.bool sh), .own 3], .gone, .row 3 1 k (gN TO), .row 3 1 q (gN T)]) :=
  code_run Gml2_ok (orc := ⟨[true, false], []⟩) (obl := [decide ((↑q : Int) > (0 : Int)) = true,
      decide ((↑k : Int) < n) = false,
      m = m,
      sh = sh,
      k = k,
      ∀ (i : Nat), i < k → TO i = TO i ∧ True,
      q = q,
      ∀ (i : Nat), i < q → T i = T i ∧ True]) (by kernel_rfl) (.cons (by exact decide_eq_true (by omega)) (.cons (by exact decide_eq_false (by omega)) (.cons (by rfl) (.cons (by rfl) (.cons (by rfl) (.cons (by (intro _ _; exact ⟨rfl, trivial⟩)) (.cons (by rfl) (.cons (by (intro _ _; exact ⟨rfl, trivial⟩)) .nil)))))))) (Nat.le_of_ble_eq_true (by kernel_rfl))

set_option maxHeartbeats 2000000 in
theorem rsm_f (n m : Int) (sh : Bool) (k q q' : Nat) (TO T T' : Nat → Int) (l : CodeOk Try.prog 2 (.loop (loopOf Try.f16 0)) (mkSt 30 [(0, pz), (1, iA n), (5, .nv (.one (.own 2)))] [.box 38 [.val (.int .i64 m), .val (.bool sh), .own 3], .gone, .row 3 1 0 (gN TO), .row 3 1 q (gN T)]) (.exit 0) (mkSt 30 [(5, .nv (.one (.own 2)))] [.box 38 [.val (.int .i64 m), .val (.bool sh), .own 3], .gone, .row 3 1 k (gN TO), .row 3 1 q' (gN T')])) : FnOk Try.prog 16 ([pz, iA n]) (rbM m sh q T) (.nv (.one (.own 2))) ([.box 38 [.val (.int .i64 m), .val (.bool sh), .own 3], .gone, .row 3 1 k (gN TO), .row 3 1 q' (gN T')]) :=
  fn_run Gml2_ok Try.func16 (orc := ⟨[], [⟨mkSt 30 [(0, pz), (1, iA n), (5, .nv (.one (.own 2)))] [.box 38 [.val (.int .i64 m), .val (.bool sh), .own 3], .gone, .row 3 1 0 (gN TO), .row 3 1 q (gN T)], .exit 0, mkSt 30 [(5, .nv (.one (.own 2)))] [.box 38 [.val (.int .i64 m), .val (.bool sh), .own 3], .gone, .row 3 1 k (gN TO), .row 3 1 q' (gN T')]⟩]⟩) (obl := [(0 : Nat) = (0 : Nat),
      n = n,
      m = m,
      sh = sh,
      (0 : Nat) = (0 : Nat),
      q = q,
      ∀ (i : Nat), i < q → T i = T i ∧ True,
      (2 : Nat) ≤ (4 : Nat),
      CodeOk Try.prog (2 : Nat) (Code.loop (loopOf Try.f16 (0 : Nat))) (mkSt (30 : Nat) [((0 : Nat), pz), ((1 : Nat), iA n), ((5 : Nat), SV.nv (NV.one (At.own (2 : Nat))))] [Seg.box (38 : TypeId) [At.val (Value.int IntKind.i64 m), At.val (Value.bool sh), At.own (3 : Nat)], Seg.gone, Seg.row (3 : TypeId) (1 : Nat) (0 : Nat) (gN TO), Seg.row (3 : TypeId) (1 : Nat) q (gN T)]) (Ex.exit (0 : Nat)) (mkSt (30 : Nat) [((5 : Nat), SV.nv (NV.one (At.own (2 : Nat))))] [Seg.box (38 : TypeId) [At.val (Value.int IntKind.i64 m), At.val (Value.bool sh), At.own (3 : Nat)], Seg.gone, Seg.row (3 : TypeId) (1 : Nat) k (gN TO), Seg.row (3 : TypeId) (1 : Nat) q' (gN T')]),
      m = m,
      sh = sh,
      k = k,
      ∀ (i : Nat), i < k → TO i = TO i ∧ True,
      q' = q',
      ∀ (i : Nat), i < q' → T' i = T' i ∧ True]) (by kernel_rfl) (.cons (by rfl) (.cons (by rfl) (.cons (by rfl) (.cons (by rfl) (.cons (by rfl) (.cons (by rfl) (.cons (by (intro _ _; exact ⟨rfl, trivial⟩)) (.cons (by trivial) (.cons (by assumption) (.cons (by rfl) (.cons (by rfl) (.cons (by rfl) (.cons (by (intro _ _; exact ⟨rfl, trivial⟩)) (.cons (by rfl) (.cons (by (intro _ _; exact ⟨rfl, trivial⟩)) .nil))))))))))))))) (Nat.le_of_ble_eq_true (by kernel_rfl))
end Go.Proofs.Ytajdkbgbekdbmaa
