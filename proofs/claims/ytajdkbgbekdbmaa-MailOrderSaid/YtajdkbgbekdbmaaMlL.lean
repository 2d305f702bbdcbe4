/- Runs of Go code, as printed by a program: no condition beyond those that each states. -/
import Derived.Test.YtajdkbgbekdbmaaMlI
import Derived.Test.YtajdkbgbekdbmaaChecked
import Derived.KernelRfl
namespace Go.Proofs.Ytajdkbgbekdbmaa
set_option linter.unusedVariables false
set_option linter.unusedSimpArgs false
set_option maxRecDepth 100000
open Go.RowKit E
set_option maxHeartbeats 2000000 in
theorem some_r (n : Int) (k : Nat) (sh : Bool) (cap : Nat) (T : Nat → Int) (hk : k ≤ 100000) (x : Int) (rest : List Value) (T' : Nat → Int) (hn : (k : Int) < n) (hT : T' k = x) (hT2 : ∀ i, i < k → T i = T' i) : CodeOk Try.prog 2 (loopOf Try.f15 0) (mkSt 24 [(0, pz), (1, iA n), (5, .nv (.one (.own 2)))] [.box 56 [.chn 1, .val (.bool sh)], .chan cap (.int .i64 x :: rest) sh, .row 3 1 k (fun i => [.val (.int .i64 (T i))])]) .normal (mkSt 24 [(0, pz), (1, iA n), (5, .nv (.one (.own 2)))] [.box 56 [.chn 1, .val (.bool sh)], .chan cap rest sh, .row 3 1 (k + 1) (fun i => [.val (.int .i64 (T' i))])]) :=
  code_run Gml1_ok (orc := ⟨[true, false], []⟩) (obl := [decide ((↑k : Int) < n) = true,
      (0 : Nat) = (0 : Nat),
      sh = sh,
      cap = cap,
      Value.int IntKind.i64 x :: rest = Value.int IntKind.i64 x :: rest,
      sh = sh,
      (!true) = false,
      k + (1 : Nat) ≤ (4611686018427387904 : Nat),
      (k + (1 : Nat)) * (8 : Nat) ≤ (140737488355328 : Nat),
      (0 : Nat) = (0 : Nat),
      n = n,
      sh = sh,
      cap = cap,
      rest = rest,
      sh = sh,
      k + (1 : Nat) = k + (1 : Nat),
      ∀ (i : Nat), i < k + (1 : Nat) → AllT (leAts ([(nat_lit 1, Bd.same (nat_lit 1)), (nat_lit 0, Bd.same (nat_lit 0))] ++ ([((0 : Nat), Bd.same (0 : Nat))] ++ ([] ++ ([((2 : Nat), Bd.same (4 : Nat))] ++ []))) ++ ([] ++ ([((1 : Nat), Bd.same (1 : Nat))] ++ ([] ++ []) ++ ([((1 : Nat), Bd.same (1 : Nat))] ++ ([] ++ []) ++ ([] ++ []))) ++ ([] ++ ([] ++ []) ++ []))) (3 : Nat) (if i = k then [At.val (Value.int IntKind.i64 x)] else [At.val (Value.int IntKind.i64 (T i))]) [At.val (Value.int IntKind.i64 (T' i))])]) (by kernel_rfl) (.cons (by exact decide_eq_true (by omega)) (.cons (by rfl) (.cons (by rfl) (.cons (by rfl) (.cons (by rfl) (.cons (by rfl) (.cons (by rfl) (.cons (by omega) (.cons (by omega) (.cons (by rfl) (.cons (by rfl) (.cons (by rfl) (.cons (by rfl) (.cons (by rfl) (.cons (by rfl) (.cons (by rfl) (.cons (by (refine leG_eq (fun j hj => gI_step hT hT2 hj) (fun _ _ => rfl))) .nil))))))))))))))))) (Nat.le_of_ble_eq_true (by kernel_rfl))

set_option maxHeartbeats 2000000 in
theorem some_b (n : Int) (k : Nat) (sh : Bool) (cap : Nat) (T : Nat → Int) (hk : k ≤ 100000) (hn : (k : Int) < n) : CodeOk Try.prog 2 (loopOf Try.f15 0) (mkSt 24 [(0, pz), (1, iA n), (5, .nv (.one (.own 2)))] [.box 56 [.chn 1, .val (.bool sh)], .chan cap [] sh, .row 3 1 k (fun i => [.val (.int .i64 (T i))])]) (.exit 0) (mkSt 24 [(5, .nv (.one (.own 2)))] [.box 56 [.chn 1, .val (.bool sh)], .chan cap [] sh, .row 3 1 k (fun i => [.val (.int .i64 (T i))])]) :=
  code_run Gml1_ok (orc := ⟨[true, true], []⟩) (obl := [decide ((↑k : Int) < n) = true,
      (0 : Nat) = (0 : Nat),
      sh = sh,
      cap = cap,
      ([] : List Value) = ([] : List Value),
      sh = sh,
      (!false) = true,
      sh = sh,
      cap = cap,
      ([] : List Value) = ([] : List Value),
      sh = sh,
      k = k,
      ∀ (i : Nat), i < k → T i = T i ∧ True]) (by kernel_rfl) (.cons (by exact decide_eq_true (by omega)) (.cons (by rfl) (.cons (by rfl) (.cons (by rfl) (.cons (by rfl) (.cons (by rfl) (.cons (by rfl) (.cons (by rfl) (.cons (by rfl) (.cons (by rfl) (.cons (by rfl) (.cons (by rfl) (.cons (by (intro _ _; exact ⟨rfl, trivial⟩)) .nil))))))))))))) (Nat.le_of_ble_eq_true (by kernel_rfl))

set_option maxHeartbeats 2000000 in
theorem some_e (n : Int) (k : Nat) (sh : Bool) (cap : Nat) (T : Nat → Int) (hk : k ≤ 100000) (buf : List Value) (hn : ¬ (k : Int) < n) : CodeOk Try.prog 2 (loopOf Try.f15 0) (mkSt 24 [(0, pz), (1, iA n), (5, .nv (.one (.own 2)))] [.box 56 [.chn 1, .val (.bool sh)], .chan cap buf sh, .row 3 1 k (fun i => [.val (.int .i64 (T i))])]) (.exit 0) (mkSt 24 [(5, .nv (.one (.own 2)))] [.box 56 [.chn 1, .val (.bool sh)], .chan cap buf sh, .row 3 1 k (fun i => [.val (.int .i64 (T i))])]) :=
  code_run Gml1_ok (orc := ⟨[false], []⟩) (obl := [decide ((↑k : Int) < n) = false,
      sh = sh,
      cap = cap,
      buf = buf,
      sh = sh,
      k = k,
      ∀ (i : Nat), i < k → T i = T i ∧ True]) (by kernel_rfl) (.cons (by exact decide_eq_false (by omega)) (.cons (by rfl) (.cons (by rfl) (.cons (by rfl) (.cons (by rfl) (.cons (by rfl) (.cons (by (intro _ _; exact ⟨rfl, trivial⟩)) .nil))))))) (Nat.le_of_ble_eq_true (by kernel_rfl))

set_option maxHeartbeats 2000000 in
theorem some_f (n : Int) (sh : Bool) (cap : Nat) (buf buf' : List Value) (k : Nat) (T : Nat → Int) (l : CodeOk Try.prog 2 (.loop (loopOf Try.f15 0)) (mkSt 24 [(0, pz), (1, iA n), (5, .nv (.one (.own 2)))] [.box 56 [.chn 1, .val (.bool sh)], .chan cap buf sh, .row 3 1 0 (fun i => [.val (.int .i64 ((fun _ => 0) i))])]) (.exit 0) (mkSt 24 [(5, .nv (.one (.own 2)))] [.box 56 [.chn 1, .val (.bool sh)], .chan cap buf' sh, .row 3 1 k (fun i => [.val (.int .i64 (T i))])])) : FnOk Try.prog 15 ([pz, iA n]) (mbMI sh cap buf sh) (.nv (.one (.own 2))) ([.box 56 [.chn 1, .val (.bool sh)], .chan cap buf' sh, .row 3 1 k (fun i => [.val (.int .i64 (T i))])]) :=
  fn_run Gml1_ok Try.func15 (orc := ⟨[], [⟨mkSt 24 [(0, pz), (1, iA n), (5, .nv (.one (.own 2)))] [.box 56 [.chn 1, .val (.bool sh)], .chan cap buf sh, .row 3 1 0 (fun i => [.val (.int .i64 ((fun _ => 0) i))])], .exit 0, mkSt 24 [(5, .nv (.one (.own 2)))] [.box 56 [.chn 1, .val (.bool sh)], .chan cap buf' sh, .row 3 1 k (fun i => [.val (.int .i64 (T i))])]⟩]⟩) (obl := [(0 : Nat) = (0 : Nat),
      n = n,
      sh = sh,
      cap = cap,
      buf = buf,
      sh = sh,
      (0 : Nat) = (0 : Nat),
      (2 : Nat) ≤ (3 : Nat),
      CodeOk Try.prog (2 : Nat) (Code.loop (loopOf Try.f15 (0 : Nat))) (mkSt (24 : Nat) [((0 : Nat), pz), ((1 : Nat), iA n), ((5 : Nat), SV.nv (NV.one (At.own (2 : Nat))))] [Seg.box (56 : TypeId) [At.chn (1 : Nat), At.val (Value.bool sh)], Seg.chan cap buf sh, Seg.row (3 : TypeId) (1 : Nat) (0 : Nat) fun (i : Nat) => [At.val (Value.int IntKind.i64 ((fun (x : Nat) => (0 : Int)) i))]]) (Ex.exit (0 : Nat)) (mkSt (24 : Nat) [((5 : Nat), SV.nv (NV.one (At.own (2 : Nat))))] [Seg.box (56 : TypeId) [At.chn (1 : Nat), At.val (Value.bool sh)], Seg.chan cap buf' sh, Seg.row (3 : TypeId) (1 : Nat) k fun (i : Nat) => [At.val (Value.int IntKind.i64 (T i))]]),
      sh = sh,
      cap = cap,
      buf' = buf',
      sh = sh,
      k = k,
      ∀ (i : Nat), i < k → T i = T i ∧ True]) (by kernel_rfl) (.cons (by rfl) (.cons (by rfl) (.cons (by rfl) (.cons (by rfl) (.cons (by rfl) (.cons (by rfl) (.cons (by rfl) (.cons (by trivial) (.cons (by assumption) (.cons (by rfl) (.cons (by rfl) (.cons (by rfl) (.cons (by rfl) (.cons (by rfl) (.cons (by (intro _ _; exact ⟨rfl, trivial⟩)) .nil))))))))))))))) (Nat.le_of_ble_eq_true (by kernel_rfl))
end Go.Proofs.Ytajdkbgbekdbmaa
