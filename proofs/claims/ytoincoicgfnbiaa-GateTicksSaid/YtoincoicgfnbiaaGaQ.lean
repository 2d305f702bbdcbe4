/- Runs of Go code, as printed by a program: no condition beyond those that each states. -/
import Derived.Test.YtoincoicgfnbiaaGaP
import Derived.Test.YtoincoicgfnbiaaET
import Derived.Test.YtoincoicgfnbiaaChecked
import Derived.KernelRfl
namespace Go.Proofs.Ytoincoicgfnbiaa
set_option linter.unusedVariables false
set_option linter.unusedSimpArgs false
set_option maxRecDepth 100000
open Go.RowKit E
attribute [local irreducible] allS okN chk pre sl slt opB opZ alwB rndN gmB lft hlv isB opnN spn opj tmj alwR stF rSt nxI nxV nxB ndQ
set_option maxHeartbeats 2000000 in
theorem sy_n (n : Nat) (c t : Int) (O S : Nat → Int) (hm : gmB n S c = false) : FnOk Try.prog 9 ([.nv (.one (.own 0)), iA c, .nv (.one (.val (.int .u64 (t))))]) ([.ro 2 n (gSl O S)]) (.tup [.one (.val (.int .u64 0)), .one (.val (.bool false))]) ([.gone]) :=
  fn_run Gg7_ok Try.func9 (orc := ⟨[true, true], []⟩) (obl := [c = c,
      n = n,
      ∀ (i : Nat), i < n → O i = oOf (gSl O S) i ∧ S i = sOf (gSl O S) i ∧ True,
      (!gmB n (sOf (gSl O S)) c) = true,
      true = true,
      (0 : Int) = (0 : Int),
      false = false]) (by kernel_rfl) (.cons (by rfl) (.cons (by rfl) (.cons (by exact fun i _ => ⟨rfl, rfl, trivial⟩) (.cons (by (show (!gmB n S c) = true; rw [hm]; rfl)) (.cons (by rfl) (.cons (by rfl) (.cons (by rfl) .nil))))))) (Nat.le_of_ble_eq_true (by kernel_rfl))

set_option maxHeartbeats 2000000 in
theorem sy_a (n : Nat) (c t : Int) (O S : Nat → Int) (hn : n ≤ 64) (hc : 0 ≤ c) (hm : gmB n S c = true) (ha : alwB O c n = true) : FnOk Try.prog 9 ([.nv (.one (.own 0)), iA c, .nv (.one (.val (.int .u64 (t))))]) ([.ro 2 n (gSl O S)]) (.tup [.one (.val (.int .u64 0)), .one (.val (.bool false))]) ([.gone]) :=
  fn_run Gg7_ok Try.func9 (orc := ⟨[false, true], []⟩) (obl := [c = c,
      n = n,
      ∀ (i : Nat), i < n → O i = oOf (gSl O S) i ∧ S i = sOf (gSl O S) i ∧ True,
      (!gmB n (sOf (gSl O S)) c) = false,
      n ≤ (9223372036854775807 : Nat),
      (0 : Int) ≤ c,
      c = c,
      n = n,
      ∀ (i : Nat), i < n → O i = oOf (gSl O S) i ∧ S i = sOf (gSl O S) i ∧ True,
      alwB (oOf (gSl O S)) c n = true,
      (0 : Int) = (0 : Int),
      false = false]) (by kernel_rfl) (.cons (by rfl) (.cons (by rfl) (.cons (by exact fun i _ => ⟨rfl, rfl, trivial⟩) (.cons (by (show (!gmB n S c) = false; rw [hm]; rfl)) (.cons (by omega) (.cons (by assumption) (.cons (by rfl) (.cons (by rfl) (.cons (by exact fun i _ => ⟨rfl, rfl, trivial⟩) (.cons (by assumption) (.cons (by rfl) (.cons (by rfl) .nil)))))))))))) (Nat.le_of_ble_eq_true (by kernel_rfl))

set_option maxHeartbeats 2000000 in
theorem sy_0 (n : Nat) (c t : Int) (O S : Nat → Int) : CodeOkL Try.prog 1 (subC [false] (bodyOf Try.f9)) (mkSt 32 [(0, .nv (.one (.own 0))), (1, iA c), (2, .nv (.one (.val (.int .u64 (t)))))] [.ro 2 n (gSl O S)]) .normal (mkSt 32 [(0, .nv (.one (.own 0))), (1, iA c), (2, .nv (.one (.val (.int .u64 (t)))))] [.ro 2 n (gSl O S)]) :=
  codeL_run Gg7_ok (orc := ⟨[], []⟩) (obl := [c = c,
      t = t,
      n = n,
      ∀ (i : Nat), i < n → O i = O i ∧ S i = S i ∧ True]) (by kernel_rfl) (by kernel_rfl) (.cons (by rfl) (.cons (by rfl) (.cons (by rfl) (.cons (by exact fun i _ => ⟨rfl, rfl, trivial⟩) .nil)))) (Nat.le_of_ble_eq_true (by kernel_rfl))

set_option maxHeartbeats 2000000 in
theorem sy_1 (n : Nat) (c t : Int) (O S : Nat → Int) (hn : n ≤ 64) (hc : 0 ≤ c) (hm : gmB n S c = true) (ha : alwB O c n = false) : CodeOkL Try.prog 1 (subC [true, false] (bodyOf Try.f9)) (mkSt 32 [(0, .nv (.one (.own 0))), (1, iA c), (2, .nv (.one (.val (.int .u64 (t)))))] [.ro 2 n (gSl O S)]) .normal (mkSt 32 [(0, .nv (.one (.own 0))), (1, iA c), (2, .nv (.one (.val (.int .u64 (t)))))] [.ro 2 n (gSl O S)]) :=
  codeL_run Gg7_ok (orc := ⟨[false, false], []⟩) (obl := [c = c,
      n = n,
      ∀ (i : Nat), i < n → O i = oOf (gSl O S) i ∧ S i = sOf (gSl O S) i ∧ True,
      (!gmB n (sOf (gSl O S)) c) = false,
      n ≤ (9223372036854775807 : Nat),
      (0 : Int) ≤ c,
      c = c,
      n = n,
      ∀ (i : Nat), i < n → O i = oOf (gSl O S) i ∧ S i = sOf (gSl O S) i ∧ True,
      alwB (oOf (gSl O S)) c n = false,
      c = c,
      t = t,
      n = n,
      ∀ (i : Nat), i < n → O i = O i ∧ S i = S i ∧ True]) (by kernel_rfl) (by kernel_rfl) (.cons (by rfl) (.cons (by rfl) (.cons (by exact fun i _ => ⟨rfl, rfl, trivial⟩) (.cons (by (show (!gmB n S c) = false; rw [hm]; rfl)) (.cons (by omega) (.cons (by assumption) (.cons (by rfl) (.cons (by rfl) (.cons (by exact fun i _ => ⟨rfl, rfl, trivial⟩) (.cons (by assumption) (.cons (by rfl) (.cons (by rfl) (.cons (by rfl) (.cons (by exact fun i _ => ⟨rfl, rfl, trivial⟩) .nil)))))))))))))) (Nat.le_of_ble_eq_true (by kernel_rfl))

set_option maxHeartbeats 2000000 in
theorem sy_2 (n : Nat) (c t : Int) (O S : Nat → Int) : CodeOkL Try.prog 1 (subC [true, true, false] (bodyOf Try.f9)) (mkSt 32 [(0, .nv (.one (.own 0))), (1, iA c), (2, .nv (.one (.val (.int .u64 (t)))))] [.ro 2 n (gSl O S)]) .normal (mkSt 32 [(0, .nv (.one (.own 0))), (1, iA c), (2, .nv (.one (.val (.int .u64 (t))))), (8, .nv (.one (.ptr 1 0)))] [.ro 2 n (gSl O S), .box 23 [.val (.int .u64 0)]]) :=
  codeL_run Gg7_ok (orc := ⟨[], []⟩) (obl := [c = c,
      t = t,
      (0 : Nat) = (0 : Nat),
      n = n,
      ∀ (i : Nat), i < n → O i = O i ∧ S i = S i ∧ True,
      (0 : Int) = (0 : Int)]) (by kernel_rfl) (by kernel_rfl) (.cons (by rfl) (.cons (by rfl) (.cons (by rfl) (.cons (by rfl) (.cons (by exact fun i _ => ⟨rfl, rfl, trivial⟩) (.cons (by rfl) .nil)))))) (Nat.le_of_ble_eq_true (by kernel_rfl))

set_option maxHeartbeats 2000000 in
theorem sy_3 (n : Nat) (c t : Int) (O S : Nat → Int) : CodeOkL Try.prog 1 (subC [true, true, true, false, false] (bodyOf Try.f9)) (mkSt 32 [(0, .nv (.one (.own 0))), (1, iA c), (2, .nv (.one (.val (.int .u64 (t))))), (8, .nv (.one (.ptr 1 0)))] [.ro 2 n (gSl O S), .box 23 [.val (.int .u64 0)]]) .normal (mkSt 32 [(8, .nv (.one (.ptr 1 0))), (22, .nv (.one (.clo 25 [.ptr 2 0, .ptr 4 0, .ptr 3 0])))] [.ro 2 n (gSl O S), .box 23 [.val (.int .u64 (0))], .robox 22 [.own 0], .robox 3 [.val (.int .i64 c)], .robox 23 [.val (.int .u64 t)]]) :=
  codeL_run Gg7_ok (orc := ⟨[], []⟩) (obl := [c = c,
      t = t,
      n = n,
      ∀ (i : Nat), i < n → O i = oOf (gSl O S) i ∧ S i = sOf (gSl O S) i ∧ True,
      (0 : Nat) = (0 : Nat),
      (0 : Nat) = (0 : Nat),
      (0 : Nat) = (0 : Nat),
      (0 : Nat) = (0 : Nat),
      n = n,
      ∀ (i : Nat), i < n → O i = O i ∧ S i = S i ∧ True,
      (0 : Int) = (0 : Int),
      c = c,
      t = t]) (by kernel_rfl) (by kernel_rfl) (.cons (by rfl) (.cons (by rfl) (.cons (by rfl) (.cons (by exact fun i _ => ⟨rfl, rfl, trivial⟩) (.cons (by rfl) (.cons (by rfl) (.cons (by rfl) (.cons (by rfl) (.cons (by rfl) (.cons (by exact fun i _ => ⟨rfl, rfl, trivial⟩) (.cons (by rfl) (.cons (by rfl) (.cons (by rfl) .nil))))))))))))) (Nat.le_of_ble_eq_true (by kernel_rfl))

set_option maxHeartbeats 2000000 in
theorem sy_4 (n : Nat) (c t : Int) (O S : Nat → Int) (v s : Int) (b : Bool) : CodeOkL Try.prog 5 (subC [true, true, true, false, true, true, false] (bodyOf Try.f9)) (mkSt 32 [(8, .nv (.one (.ptr 1 0))), (22, .nv (.one (.clo 25 [.ptr 2 0, .ptr 4 0, .ptr 3 0]))), (23, .nv (.agg [.val (.bool b), .val (.int .u64 s)]))] [.ro 2 n (gSl O S), .box 23 [.val (.int .u64 (v))], .robox 22 [.own 0], .robox 3 [.val (.int .i64 c)], .robox 23 [.val (.int .u64 t)]]) .normal (mkSt 32 [(8, .nv (.one (.ptr 1 0))), (9, .nv (.one (.ptr 5 0)))] [.ro 2 n (gSl O S), .box 23 [.val (.int .u64 (v))], .robox 22 [.own 0], .robox 3 [.val (.int .i64 c)], .robox 23 [.val (.int .u64 t)], .box 50 [.val (.bool b), .val (.int .u64 s)]]) :=
  codeL_run Gg7_ok (orc := ⟨[], []⟩) (obl := [(0 : Nat) = (0 : Nat),
      (0 : Nat) = (0 : Nat),
      n = n,
      ∀ (i : Nat), i < n → O i = O i ∧ S i = S i ∧ True,
      v = v,
      c = c,
      t = t,
      b = b,
      s = s]) (by kernel_rfl) (by kernel_rfl) (.cons (by rfl) (.cons (by rfl) (.cons (by rfl) (.cons (by exact fun i _ => ⟨rfl, rfl, trivial⟩) (.cons (by rfl) (.cons (by rfl) (.cons (by rfl) (.cons (by rfl) (.cons (by rfl) .nil))))))))) (Nat.le_of_ble_eq_true (by kernel_rfl))

set_option maxHeartbeats 2000000 in
theorem sy_5y (n : Nat) (c t : Int) (O S : Nat → Int) (v v' s : Int) (hp : IntKind.wrap .u64 (v + s) = v') : CodeOkL Try.prog 5 (subC [true, true, true, false, true, true, true] (bodyOf Try.f9)) (mkSt 32 [(8, .nv (.one (.ptr 1 0))), (9, .nv (.one (.ptr 5 0)))] [.ro 2 n (gSl O S), .box 23 [.val (.int .u64 (v))], .robox 22 [.own 0], .robox 3 [.val (.int .i64 c)], .robox 23 [.val (.int .u64 t)], .box 50 [.val (.bool true), .val (.int .u64 s)]]) .normal (mkSt 32 [] [.ro 2 n (gSl O S), .box 23 [.val (.int .u64 (v'))], .robox 22 [.own 0], .robox 3 [.val (.int .i64 c)], .robox 23 [.val (.int .u64 t)]]) :=
  codeL_run Gg7_ok (orc := ⟨[false], []⟩) (obl := [(!true) = false,
      n = n,
      ∀ (i : Nat), i < n → O i = O i ∧ S i = S i ∧ True,
      IntKind.wrap IntKind.u64 (v + s) = v',
      c = c,
      t = t]) (by kernel_rfl) (by kernel_rfl) (.cons (by rfl) (.cons (by rfl) (.cons (by (simp; done)) (.cons (by assumption) (.cons (by rfl) (.cons (by rfl) .nil)))))) (Nat.le_of_ble_eq_true (by kernel_rfl))

set_option maxHeartbeats 2000000 in
theorem sy_5n (n : Nat) (c t : Int) (O S : Nat → Int) (v s : Int) : CodeOkL Try.prog 5 (subC [true, true, true, false, true, true, true] (bodyOf Try.f9)) (mkSt 32 [(8, .nv (.one (.ptr 1 0))), (9, .nv (.one (.ptr 5 0)))] [.ro 2 n (gSl O S), .box 23 [.val (.int .u64 (v))], .robox 22 [.own 0], .robox 3 [.val (.int .i64 c)], .robox 23 [.val (.int .u64 t)], .box 50 [.val (.bool false), .val (.int .u64 s)]]) (.exit 0) (mkSt 32 [] [.ro 2 n (gSl O S), .box 23 [.val (.int .u64 (v))], .robox 22 [.own 0], .robox 3 [.val (.int .i64 c)], .robox 23 [.val (.int .u64 t)]]) :=
  codeL_run Gg7_ok (orc := ⟨[true], []⟩) (obl := [(!false) = true,
      n = n,
      ∀ (i : Nat), i < n → O i = O i ∧ S i = S i ∧ True,
      v = v,
      c = c,
      t = t]) (by kernel_rfl) (by kernel_rfl) (.cons (by rfl) (.cons (by rfl) (.cons (by exact fun i _ => ⟨rfl, rfl, trivial⟩) (.cons (by rfl) (.cons (by rfl) (.cons (by rfl) .nil)))))) (Nat.le_of_ble_eq_true (by kernel_rfl))

set_option maxHeartbeats 2000000 in
theorem sy_6 (n : Nat) (c t : Int) (O S : Nat → Int) (v : Int) : CodeOkL Try.prog 1 (subC [true, true, true, true] (bodyOf Try.f9)) (mkSt 32 [(8, .nv (.one (.ptr 1 0))), (22, .nv (.one (.clo 25 [.ptr 2 0, .ptr 4 0, .ptr 3 0])))] [.ro 2 n (gSl O S), .box 23 [.val (.int .u64 (v))], .robox 22 [.own 0], .robox 3 [.val (.int .i64 c)], .robox 23 [.val (.int .u64 t)]]) .ret (mkSt 32 [(6, .nv (.one (.val (.int .u64 (v))))), (7, bA true)] [.gone]) :=
  codeL_run Gg7_ok (orc := ⟨[], []⟩) (obl := [v = v,
      true = true]) (by kernel_rfl) (by kernel_rfl) (.cons (by rfl) (.cons (by rfl) .nil)) (Nat.le_of_ble_eq_true (by kernel_rfl))
end Go.Proofs.Ytoincoicgfnbiaa
