/- Runs of Go code, as printed by a program: no condition beyond those that each states. -/
import Derived.Test.YtoincoicgfnbiaaGaP
import Derived.Test.YtoincoicgfnbiaaET
import Derived.Test.YtoincoicgfnbiaaChecked
import Derived.KernelRfl
namespace Go.Proofs.Ytoincoicgfnbiaa
set_option linter.unusedVariables false
set_option linter.unusedSimpArgs false
set_option maxRecDepth 100000
open Go.RowKit E
attribute [local irreducible] allS okN chk pre sl slt opB opZ alwB rndN gmB lft hlv isB opnN spn opj tmj alwR stF rSt nxI nxV nxB ndQ
set_option maxHeartbeats 2000000 in
theorem nx_n (n : Nat) (c t d : Int) (O S : Nat → Int) (hm : gmB n S c = false) : FnOk Try.prog 10 ([.nv (.one (.own 0)), iA c, .nv (.one (.val (.int .u64 (t)))), .nv (.one (.val (.int .u64 (d))))]) ([.ro 2 n (gSl O S)]) (.tup [.one (.val (.int .u64 0)), .one (.val (.bool false))]) ([.gone]) :=
  fn_run Gg7_ok Try.func10 (orc := ⟨[true, true], []⟩) (obl := [c = c,
      n = n,
      ∀ (i : Nat), i < n → O i = oOf (gSl O S) i ∧ S i = sOf (gSl O S) i ∧ True,
      (!gmB n (sOf (gSl O S)) c) = true,
      true = true,
      (0 : Int) = (0 : Int),
      false = false]) (by kernel_rfl) (.cons (by rfl) (.cons (by rfl) (.cons (by exact fun i _ => ⟨rfl, rfl, trivial⟩) (.cons (by (show (!gmB n S c) = true; rw [hm]; rfl)) (.cons (by rfl) (.cons (by rfl) (.cons (by rfl) .nil))))))) (Nat.le_of_ble_eq_true (by kernel_rfl))

set_option maxHeartbeats 2000000 in
theorem nx_l (n : Nat) (c t d : Int) (O S : Nat → Int) (hm : gmB n S c = true) (ht2 : t > 9223372036854775808) : FnOk Try.prog 10 ([.nv (.one (.own 0)), iA c, .nv (.one (.val (.int .u64 (t)))), .nv (.one (.val (.int .u64 (d))))]) ([.ro 2 n (gSl O S)]) (.tup [.one (.val (.int .u64 0)), .one (.val (.bool false))]) ([.gone]) :=
  fn_run Gg7_ok Try.func10 (orc := ⟨[false, true], []⟩) (obl := [c = c,
      n = n,
      ∀ (i : Nat), i < n → O i = oOf (gSl O S) i ∧ S i = sOf (gSl O S) i ∧ True,
      (!gmB n (sOf (gSl O S)) c) = false,
      decide (t > (9223372036854775808 : Int)) = true,
      (0 : Int) = (0 : Int),
      false = false]) (by kernel_rfl) (.cons (by rfl) (.cons (by rfl) (.cons (by exact fun i _ => ⟨rfl, rfl, trivial⟩) (.cons (by (show (!gmB n S c) = false; rw [hm]; rfl)) (.cons (by exact decide_eq_true ht2) (.cons (by rfl) (.cons (by rfl) .nil))))))) (Nat.le_of_ble_eq_true (by kernel_rfl))

set_option maxHeartbeats 2000000 in
theorem nx_a (n : Nat) (c t d : Int) (O S : Nat → Int) (hn : n ≤ 64) (hc : 0 ≤ c) (hm : gmB n S c = true) (ht2 : ¬ t > 9223372036854775808) (ha : alwB O c n = true) : FnOk Try.prog 10 ([.nv (.one (.own 0)), iA c, .nv (.one (.val (.int .u64 (t)))), .nv (.one (.val (.int .u64 (d))))]) ([.ro 2 n (gSl O S)]) (.tup [.one (.val (.int .u64 t)), .one (.val (.bool true))]) ([.gone]) :=
  fn_run Gg7_ok Try.func10 (orc := ⟨[false, false, true], []⟩) (obl := [c = c,
      n = n,
      ∀ (i : Nat), i < n → O i = oOf (gSl O S) i ∧ S i = sOf (gSl O S) i ∧ True,
      (!gmB n (sOf (gSl O S)) c) = false,
      decide (t > (9223372036854775808 : Int)) = false,
      n ≤ (9223372036854775807 : Nat),
      (0 : Int) ≤ c,
      c = c,
      n = n,
      ∀ (i : Nat), i < n → O i = oOf (gSl O S) i ∧ S i = sOf (gSl O S) i ∧ True,
      alwB (oOf (gSl O S)) c n = true,
      t = t,
      true = true]) (by kernel_rfl) (.cons (by rfl) (.cons (by rfl) (.cons (by exact fun i _ => ⟨rfl, rfl, trivial⟩) (.cons (by (show (!gmB n S c) = false; rw [hm]; rfl)) (.cons (by exact decide_eq_false ht2) (.cons (by omega) (.cons (by assumption) (.cons (by rfl) (.cons (by rfl) (.cons (by exact fun i _ => ⟨rfl, rfl, trivial⟩) (.cons (by assumption) (.cons (by rfl) (.cons (by rfl) .nil))))))))))))) (Nat.le_of_ble_eq_true (by kernel_rfl))

set_option maxHeartbeats 2000000 in
theorem nx_0 (n : Nat) (c t d : Int) (O S : Nat → Int) : CodeOkL Try.prog 1 (subC [false] (bodyOf Try.f10)) (mkSt 62 [(0, .nv (.one (.own 0))), (1, iA c), (2, .nv (.one (.val (.int .u64 (t))))), (3, .nv (.one (.val (.int .u64 (d)))))] [.ro 2 n (gSl O S)]) .normal (mkSt 62 [(0, .nv (.one (.own 0))), (1, iA c), (2, .nv (.one (.val (.int .u64 (t))))), (7, .nv (.one (.ptr 1 0))), (8, .nv (.one (.ptr 2 0))), (9, .nv (.one (.ptr 3 0)))] [.ro 2 n (gSl O S), .box 23 [.val (.int .u64 (d))], .box 23 [.val (.int .u64 (0))], .box 4 [.val (.bool false)]]) :=
  codeL_run Gg7_ok (orc := ⟨[], []⟩) (obl := [c = c,
      t = t,
      (0 : Nat) = (0 : Nat),
      (0 : Nat) = (0 : Nat),
      (0 : Nat) = (0 : Nat),
      n = n,
      ∀ (i : Nat), i < n → O i = O i ∧ S i = S i ∧ True,
      d = d,
      (0 : Int) = (0 : Int),
      false = false]) (by kernel_rfl) (by kernel_rfl) (.cons (by rfl) (.cons (by rfl) (.cons (by rfl) (.cons (by rfl) (.cons (by rfl) (.cons (by rfl) (.cons (by exact fun i _ => ⟨rfl, rfl, trivial⟩) (.cons (by rfl) (.cons (by rfl) (.cons (by rfl) .nil)))))))))) (Nat.le_of_ble_eq_true (by kernel_rfl))

set_option maxHeartbeats 2000000 in
theorem nx_1 (n : Nat) (c t d : Int) (O S : Nat → Int) (hm : gmB n S c = true) (ht2 : ¬ t > 9223372036854775808) : CodeOkL Try.prog 1 (subC [true, false] (bodyOf Try.f10)) (mkSt 62 [(0, .nv (.one (.own 0))), (1, iA c), (2, .nv (.one (.val (.int .u64 (t))))), (7, .nv (.one (.ptr 1 0))), (8, .nv (.one (.ptr 2 0))), (9, .nv (.one (.ptr 3 0)))] [.ro 2 n (gSl O S), .box 23 [.val (.int .u64 (d))], .box 23 [.val (.int .u64 (0))], .box 4 [.val (.bool false)]]) .normal (mkSt 62 [(0, .nv (.one (.own 0))), (1, iA c), (2, .nv (.one (.val (.int .u64 (t))))), (7, .nv (.one (.ptr 1 0))), (8, .nv (.one (.ptr 2 0))), (9, .nv (.one (.ptr 3 0)))] [.ro 2 n (gSl O S), .box 23 [.val (.int .u64 (d))], .box 23 [.val (.int .u64 (0))], .box 4 [.val (.bool false)]]) :=
  codeL_run Gg7_ok (orc := ⟨[false, false], []⟩) (obl := [c = c,
      n = n,
      ∀ (i : Nat), i < n → O i = oOf (gSl O S) i ∧ S i = sOf (gSl O S) i ∧ True,
      (!gmB n (sOf (gSl O S)) c) = false,
      decide (t > (9223372036854775808 : Int)) = false,
      c = c,
      t = t,
      (0 : Nat) = (0 : Nat),
      (0 : Nat) = (0 : Nat),
      (0 : Nat) = (0 : Nat),
      n = n,
      ∀ (i : Nat), i < n → O i = O i ∧ S i = S i ∧ True,
      d = d,
      (0 : Int) = (0 : Int),
      false = false]) (by kernel_rfl) (by kernel_rfl) (.cons (by rfl) (.cons (by rfl) (.cons (by exact fun i _ => ⟨rfl, rfl, trivial⟩) (.cons (by (show (!gmB n S c) = false; rw [hm]; rfl)) (.cons (by exact decide_eq_false ht2) (.cons (by rfl) (.cons (by rfl) (.cons (by rfl) (.cons (by rfl) (.cons (by rfl) (.cons (by rfl) (.cons (by exact fun i _ => ⟨rfl, rfl, trivial⟩) (.cons (by rfl) (.cons (by rfl) (.cons (by rfl) .nil))))))))))))))) (Nat.le_of_ble_eq_true (by kernel_rfl))

set_option maxHeartbeats 2000000 in
theorem nx_2 (n : Nat) (c t d : Int) (O S : Nat → Int) (hn : n ≤ 64) (hc : 0 ≤ c) (ha : alwB O c n = false) : CodeOkL Try.prog 1 (subC [true, true, false] (bodyOf Try.f10)) (mkSt 62 [(0, .nv (.one (.own 0))), (1, iA c), (2, .nv (.one (.val (.int .u64 (t))))), (7, .nv (.one (.ptr 1 0))), (8, .nv (.one (.ptr 2 0))), (9, .nv (.one (.ptr 3 0)))] [.ro 2 n (gSl O S), .box 23 [.val (.int .u64 (d))], .box 23 [.val (.int .u64 (0))], .box 4 [.val (.bool false)]]) .normal (mkSt 62 [(0, .nv (.one (.own 0))), (1, iA c), (2, .nv (.one (.val (.int .u64 (t))))), (7, .nv (.one (.ptr 1 0))), (8, .nv (.one (.ptr 2 0))), (9, .nv (.one (.ptr 3 0)))] [.ro 2 n (gSl O S), .box 23 [.val (.int .u64 (d))], .box 23 [.val (.int .u64 (0))], .box 4 [.val (.bool false)]]) :=
  codeL_run Gg7_ok (orc := ⟨[false], []⟩) (obl := [n ≤ (9223372036854775807 : Nat),
      (0 : Int) ≤ c,
      c = c,
      n = n,
      ∀ (i : Nat), i < n → O i = oOf (gSl O S) i ∧ S i = sOf (gSl O S) i ∧ True,
      alwB (oOf (gSl O S)) c n = false,
      c = c,
      t = t,
      (0 : Nat) = (0 : Nat),
      (0 : Nat) = (0 : Nat),
      (0 : Nat) = (0 : Nat),
      n = n,
      ∀ (i : Nat), i < n → O i = O i ∧ S i = S i ∧ True,
      d = d,
      (0 : Int) = (0 : Int),
      false = false]) (by kernel_rfl) (by kernel_rfl) (.cons (by omega) (.cons (by assumption) (.cons (by rfl) (.cons (by rfl) (.cons (by exact fun i _ => ⟨rfl, rfl, trivial⟩) (.cons (by assumption) (.cons (by rfl) (.cons (by rfl) (.cons (by rfl) (.cons (by rfl) (.cons (by rfl) (.cons (by rfl) (.cons (by exact fun i _ => ⟨rfl, rfl, trivial⟩) (.cons (by rfl) (.cons (by rfl) (.cons (by rfl) .nil)))))))))))))))) (Nat.le_of_ble_eq_true (by kernel_rfl))

set_option maxHeartbeats 2000000 in
theorem nx_3 (n : Nat) (c t d : Int) (O S : Nat → Int) (q : Int) (hq : max d 1 = q) : CodeOkL Try.prog 1 (subC [true, true, true, false] (bodyOf Try.f10)) (mkSt 62 [(0, .nv (.one (.own 0))), (1, iA c), (2, .nv (.one (.val (.int .u64 (t))))), (7, .nv (.one (.ptr 1 0))), (8, .nv (.one (.ptr 2 0))), (9, .nv (.one (.ptr 3 0)))] [.ro 2 n (gSl O S), .box 23 [.val (.int .u64 (d))], .box 23 [.val (.int .u64 (0))], .box 4 [.val (.bool false)]]) .normal (mkSt 62 [(0, .nv (.one (.own 0))), (1, iA c), (2, .nv (.one (.val (.int .u64 (t))))), (7, .nv (.one (.ptr 1 0))), (8, .nv (.one (.ptr 2 0))), (9, .nv (.one (.ptr 3 0)))] [.ro 2 n (gSl O S), .box 23 [.val (.int .u64 (q))], .box 23 [.val (.int .u64 (0))], .box 4 [.val (.bool false)]]) :=
  codeL_run Gg7_ok (orc := ⟨[], []⟩) (obl := [c = c,
      t = t,
      (0 : Nat) = (0 : Nat),
      (0 : Nat) = (0 : Nat),
      (0 : Nat) = (0 : Nat),
      n = n,
      ∀ (i : Nat), i < n → O i = O i ∧ S i = S i ∧ True,
      List.foldl (fun (x y : Int) => if y > x then y else x) d [(1 : Int)] = q,
      (0 : Int) = (0 : Int),
      false = false]) (by kernel_rfl) (by kernel_rfl) (.cons (by rfl) (.cons (by rfl) (.cons (by rfl) (.cons (by rfl) (.cons (by rfl) (.cons (by rfl) (.cons (by exact fun i _ => ⟨rfl, rfl, trivial⟩) (.cons (by (simp; omega)) (.cons (by rfl) (.cons (by rfl) .nil)))))))))) (Nat.le_of_ble_eq_true (by kernel_rfl))

set_option maxHeartbeats 2000000 in
theorem nx_4 (n : Nat) (c t : Int) (O S : Nat → Int) (q : Int) : CodeOkL Try.prog 1 (subC [true, true, true, true, false] (bodyOf Try.f10)) (mkSt 62 [(0, .nv (.one (.own 0))), (1, iA c), (2, .nv (.one (.val (.int .u64 (t))))), (7, .nv (.one (.ptr 1 0))), (8, .nv (.one (.ptr 2 0))), (9, .nv (.one (.ptr 3 0)))] [.ro 2 n (gSl O S), .box 23 [.val (.int .u64 (q))], .box 23 [.val (.int .u64 (0))], .box 4 [.val (.bool false)]]) .normal (mkSt 62 [(0, .nv (.one (.own 0))), (1, iA c), (2, .nv (.one (.val (.int .u64 (t))))), (7, .nv (.one (.ptr 1 0))), (8, .nv (.one (.ptr 2 0))), (9, .nv (.one (.ptr 3 0))), (10, .nv (.one (.ptr 4 0))), (11, .nv (.one (.ptr 5 0))), (12, .nv (.one (.ptr 6 0)))] [.ro 2 n (gSl O S), .box 23 [.val (.int .u64 (q))], .box 23 [.val (.int .u64 (0))], .box 4 [.val (.bool false)], .box 23 [.val (.int .u64 (t))], .box 23 [.val (.int .u64 (t))], .box 23 [.val (.int .u64 (0))]]) :=
  codeL_run Gg7_ok (orc := ⟨[], []⟩) (obl := [c = c,
      t = t,
      (0 : Nat) = (0 : Nat),
      (0 : Nat) = (0 : Nat),
      (0 : Nat) = (0 : Nat),
      (0 : Nat) = (0 : Nat),
      (0 : Nat) = (0 : Nat),
      (0 : Nat) = (0 : Nat),
      n = n,
      ∀ (i : Nat), i < n → O i = O i ∧ S i = S i ∧ True,
      q = q,
      (0 : Int) = (0 : Int),
      false = false,
      t = t,
      t = t,
      (0 : Int) = (0 : Int)]) (by kernel_rfl) (by kernel_rfl) (.cons (by rfl) (.cons (by rfl) (.cons (by rfl) (.cons (by rfl) (.cons (by rfl) (.cons (by rfl) (.cons (by rfl) (.cons (by rfl) (.cons (by rfl) (.cons (by exact fun i _ => ⟨rfl, rfl, trivial⟩) (.cons (by rfl) (.cons (by rfl) (.cons (by rfl) (.cons (by rfl) (.cons (by rfl) (.cons (by rfl) .nil)))))))))))))))) (Nat.le_of_ble_eq_true (by kernel_rfl))

set_option maxHeartbeats 2000000 in
theorem nx_5 (n : Nat) (c t : Int) (O S : Nat → Int) (q : Int) : CodeOkL Try.prog 1 (subC [true, true, true, true, true, false, false] (bodyOf Try.f10)) (mkSt 62 [(0, .nv (.one (.own 0))), (1, iA c), (2, .nv (.one (.val (.int .u64 (t))))), (7, .nv (.one (.ptr 1 0))), (8, .nv (.one (.ptr 2 0))), (9, .nv (.one (.ptr 3 0))), (10, .nv (.one (.ptr 4 0))), (11, .nv (.one (.ptr 5 0))), (12, .nv (.one (.ptr 6 0)))] [.ro 2 n (gSl O S), .box 23 [.val (.int .u64 (q))], .box 23 [.val (.int .u64 (0))], .box 4 [.val (.bool false)], .box 23 [.val (.int .u64 (t))], .box 23 [.val (.int .u64 (t))], .box 23 [.val (.int .u64 (0))]]) .normal (mkSt 62 [(7, .nv (.one (.ptr 1 0))), (8, .nv (.one (.ptr 2 0))), (9, .nv (.one (.ptr 3 0))), (10, .nv (.one (.ptr 4 0))), (11, .nv (.one (.ptr 5 0))), (12, .nv (.one (.ptr 6 0))), (33, .nv (.one (.clo 25 [.ptr 7 0, .ptr 9 0, .ptr 8 0])))] [.ro 2 n (gSl O S), .box 23 [.val (.int .u64 (q))], .box 23 [.val (.int .u64 (0))], .box 4 [.val (.bool false)], .box 23 [.val (.int .u64 (t))], .box 23 [.val (.int .u64 (t))], .box 23 [.val (.int .u64 (0))], .robox 22 [.own 0], .robox 3 [.val (.int .i64 c)], .robox 23 [.val (.int .u64 t)]]) :=
  codeL_run Gg7_ok (orc := ⟨[], []⟩) (obl := [c = c,
      t = t,
      n = n,
      ∀ (i : Nat), i < n → O i = oOf (gSl O S) i ∧ S i = sOf (gSl O S) i ∧ True,
      (0 : Nat) = (0 : Nat),
      (0 : Nat) = (0 : Nat),
      (0 : Nat) = (0 : Nat),
      (0 : Nat) = (0 : Nat),
      (0 : Nat) = (0 : Nat),
      (0 : Nat) = (0 : Nat),
      (0 : Nat) = (0 : Nat),
      (0 : Nat) = (0 : Nat),
      (0 : Nat) = (0 : Nat),
      n = n,
      ∀ (i : Nat), i < n → O i = O i ∧ S i = S i ∧ True,
      q = q,
      (0 : Int) = (0 : Int),
      false = false,
      t = t,
      t = t,
      (0 : Int) = (0 : Int),
      c = c,
      t = t]) (by kernel_rfl) (by kernel_rfl) (.cons (by rfl) (.cons (by rfl) (.cons (by rfl) (.cons (by exact fun i _ => ⟨rfl, rfl, trivial⟩) (.cons (by rfl) (.cons (by rfl) (.cons (by rfl) (.cons (by rfl) (.cons (by rfl) (.cons (by rfl) (.cons (by rfl) (.cons (by rfl) (.cons (by rfl) (.cons (by rfl) (.cons (by exact fun i _ => ⟨rfl, rfl, trivial⟩) (.cons (by rfl) (.cons (by rfl) (.cons (by rfl) (.cons (by rfl) (.cons (by rfl) (.cons (by rfl) (.cons (by rfl) (.cons (by rfl) .nil))))))))))))))))))))))) (Nat.le_of_ble_eq_true (by kernel_rfl))

set_option maxHeartbeats 2000000 in
theorem nx_6 (n : Nat) (c t : Int) (O S : Nat → Int) (q x y z s : Int) (b : Bool) : CodeOkL Try.prog 10 (subC [true, true, true, true, true, false, true, true, false] (bodyOf Try.f10)) (mkSt 62 [(7, .nv (.one (.ptr 1 0))), (8, .nv (.one (.ptr 2 0))), (9, .nv (.one (.ptr 3 0))), (10, .nv (.one (.ptr 4 0))), (11, .nv (.one (.ptr 5 0))), (12, .nv (.one (.ptr 6 0))), (33, .nv (.one (.clo 25 [.ptr 7 0, .ptr 9 0, .ptr 8 0]))), (34, .nv (.agg [.val (.bool b), .val (.int .u64 s)]))] [.ro 2 n (gSl O S), .box 23 [.val (.int .u64 (q))], .box 23 [.val (.int .u64 (0))], .box 4 [.val (.bool false)], .box 23 [.val (.int .u64 (x))], .box 23 [.val (.int .u64 (y))], .box 23 [.val (.int .u64 (z))], .robox 22 [.own 0], .robox 3 [.val (.int .i64 c)], .robox 23 [.val (.int .u64 t)]]) .normal (mkSt 62 [(7, .nv (.one (.ptr 1 0))), (8, .nv (.one (.ptr 2 0))), (9, .nv (.one (.ptr 3 0))), (10, .nv (.one (.ptr 4 0))), (11, .nv (.one (.ptr 5 0))), (12, .nv (.one (.ptr 6 0))), (13, .nv (.one (.ptr 10 0)))] [.ro 2 n (gSl O S), .box 23 [.val (.int .u64 (q))], .box 23 [.val (.int .u64 (0))], .box 4 [.val (.bool false)], .box 23 [.val (.int .u64 (x))], .box 23 [.val (.int .u64 (y))], .box 23 [.val (.int .u64 (z))], .robox 22 [.own 0], .robox 3 [.val (.int .i64 c)], .robox 23 [.val (.int .u64 t)], .box 50 [.val (.bool b), .val (.int .u64 s)]]) :=
  codeL_run Gg7_ok (orc := ⟨[], []⟩) (obl := [(0 : Nat) = (0 : Nat),
      (0 : Nat) = (0 : Nat),
      (0 : Nat) = (0 : Nat),
      (0 : Nat) = (0 : Nat),
      (0 : Nat) = (0 : Nat),
      (0 : Nat) = (0 : Nat),
      (0 : Nat) = (0 : Nat),
      n = n,
      ∀ (i : Nat), i < n → O i = O i ∧ S i = S i ∧ True,
      q = q,
      (0 : Int) = (0 : Int),
      false = false,
      x = x,
      y = y,
      z = z,
      c = c,
      t = t,
      b = b,
      s = s]) (by kernel_rfl) (by kernel_rfl) (.cons (by rfl) (.cons (by rfl) (.cons (by rfl) (.cons (by rfl) (.cons (by rfl) (.cons (by rfl) (.cons (by rfl) (.cons (by rfl) (.cons (by exact fun i _ => ⟨rfl, rfl, trivial⟩) (.cons (by rfl) (.cons (by rfl) (.cons (by rfl) (.cons (by rfl) (.cons (by rfl) (.cons (by rfl) (.cons (by rfl) (.cons (by rfl) (.cons (by rfl) (.cons (by rfl) .nil))))))))))))))))))) (Nat.le_of_ble_eq_true (by kernel_rfl))

set_option maxHeartbeats 2000000 in
theorem nx_s (n : Nat) (c t : Int) (O S : Nat → Int) (q x y z s x' : Int) (hq : 1 ≤ q) (hp : IntKind.wrap .u64 (x + s) = x') : CodeOkL Try.prog 10 (subC [true, true, true, true, true, false, true, true, true] (bodyOf Try.f10)) (mkSt 62 [(7, .nv (.one (.ptr 1 0))), (8, .nv (.one (.ptr 2 0))), (9, .nv (.one (.ptr 3 0))), (10, .nv (.one (.ptr 4 0))), (11, .nv (.one (.ptr 5 0))), (12, .nv (.one (.ptr 6 0))), (13, .nv (.one (.ptr 10 0)))] [.ro 2 n (gSl O S), .box 23 [.val (.int .u64 (q))], .box 23 [.val (.int .u64 (0))], .box 4 [.val (.bool false)], .box 23 [.val (.int .u64 (x))], .box 23 [.val (.int .u64 (y))], .box 23 [.val (.int .u64 (z))], .robox 22 [.own 0], .robox 3 [.val (.int .i64 c)], .robox 23 [.val (.int .u64 t)], .box 50 [.val (.bool false), .val (.int .u64 s)]]) .normal (mkSt 62 [] [.ro 2 n (gSl O S), .box 23 [.val (.int .u64 (q))], .box 23 [.val (.int .u64 (0))], .box 4 [.val (.bool false)], .box 23 [.val (.int .u64 (x'))], .box 23 [.val (.int .u64 (y))], .box 23 [.val (.int .u64 (0))], .robox 22 [.own 0], .robox 3 [.val (.int .i64 c)], .robox 23 [.val (.int .u64 t)]]) :=
  codeL_run Gg7_ok (orc := ⟨[true, false, false, false, false], []⟩) (obl := [(!false) = true,
      false = false,
      decide ((0 : Int) ≥ q) = false,
      false = false,
      decide ((0 : Int) ≥ q) = false,
      n = n,
      ∀ (i : Nat), i < n → O i = O i ∧ S i = S i ∧ True,
      q = q,
      (0 : Int) = (0 : Int),
      false = false,
      IntKind.wrap IntKind.u64 (x + s) = x',
      y = y,
      (0 : Int) = (0 : Int),
      c = c,
      t = t]) (by kernel_rfl) (by kernel_rfl) (.cons (by rfl) (.cons (by rfl) (.cons (by exact decide_eq_false (by omega)) (.cons (by rfl) (.cons (by exact decide_eq_false (by omega)) (.cons (by rfl) (.cons (by exact fun i _ => ⟨rfl, rfl, trivial⟩) (.cons (by rfl) (.cons (by rfl) (.cons (by rfl) (.cons (by assumption) (.cons (by rfl) (.cons (by rfl) (.cons (by rfl) (.cons (by rfl) .nil))))))))))))))) (Nat.le_of_ble_eq_true (by kernel_rfl))

set_option maxHeartbeats 2000000 in
theorem nx_zn (n : Nat) (c t : Int) (O S : Nat → Int) (q x y z s x' z' : Int) (ho : z = 0) (hp : IntKind.wrap .u64 (z + s) = z') (hx : IntKind.wrap .u64 (x + s) = x') (hg : ¬ z' ≥ q) : CodeOkL Try.prog 10 (subC [true, true, true, true, true, false, true, true, true] (bodyOf Try.f10)) (mkSt 62 [(7, .nv (.one (.ptr 1 0))), (8, .nv (.one (.ptr 2 0))), (9, .nv (.one (.ptr 3 0))), (10, .nv (.one (.ptr 4 0))), (11, .nv (.one (.ptr 5 0))), (12, .nv (.one (.ptr 6 0))), (13, .nv (.one (.ptr 10 0)))] [.ro 2 n (gSl O S), .box 23 [.val (.int .u64 (q))], .box 23 [.val (.int .u64 (0))], .box 4 [.val (.bool false)], .box 23 [.val (.int .u64 (x))], .box 23 [.val (.int .u64 (y))], .box 23 [.val (.int .u64 (z))], .robox 22 [.own 0], .robox 3 [.val (.int .i64 c)], .robox 23 [.val (.int .u64 t)], .box 50 [.val (.bool true), .val (.int .u64 s)]]) .normal (mkSt 62 [] [.ro 2 n (gSl O S), .box 23 [.val (.int .u64 (q))], .box 23 [.val (.int .u64 (0))], .box 4 [.val (.bool false)], .box 23 [.val (.int .u64 (x'))], .box 23 [.val (.int .u64 (x))], .box 23 [.val (.int .u64 (z'))], .robox 22 [.own 0], .robox 3 [.val (.int .i64 c)], .robox 23 [.val (.int .u64 t)]]) :=
  codeL_run Gg7_ok (orc := ⟨[false, true, true, false, false, false], []⟩) (obl := [(!true) = false,
      (z == (0 : Int)) = true,
      true = true,
      decide (IntKind.wrap IntKind.u64 (z + s) ≥ q) = false,
      false = false,
      decide (IntKind.wrap IntKind.u64 (z + s) ≥ q) = false,
      n = n,
      ∀ (i : Nat), i < n → O i = O i ∧ S i = S i ∧ True,
      q = q,
      (0 : Int) = (0 : Int),
      false = false,
      IntKind.wrap IntKind.u64 (x + s) = x',
      x = x,
      IntKind.wrap IntKind.u64 (z + s) = z',
      c = c,
      t = t]) (by kernel_rfl) (by kernel_rfl) (.cons (by rfl) (.cons (by exact beq_iff_eq.2 ho) (.cons (by rfl) (.cons (by (simp only [hp]; exact decide_eq_false hg)) (.cons (by rfl) (.cons (by (simp only [hp]; exact decide_eq_false hg)) (.cons (by rfl) (.cons (by exact fun i _ => ⟨rfl, rfl, trivial⟩) (.cons (by rfl) (.cons (by rfl) (.cons (by rfl) (.cons (by assumption) (.cons (by rfl) (.cons (by assumption) (.cons (by rfl) (.cons (by rfl) .nil)))))))))))))))) (Nat.le_of_ble_eq_true (by kernel_rfl))

set_option maxHeartbeats 2000000 in
theorem nx_zr (n : Nat) (c t : Int) (O S : Nat → Int) (q x y z s x' z' : Int) (ho : z = 0) (hp : IntKind.wrap .u64 (z + s) = z') (hg : z' ≥ q) (hl : ¬ x > 9223372036854775808) : CodeOkL Try.prog 10 (subC [true, true, true, true, true, false, true, true, true] (bodyOf Try.f10)) (mkSt 62 [(7, .nv (.one (.ptr 1 0))), (8, .nv (.one (.ptr 2 0))), (9, .nv (.one (.ptr 3 0))), (10, .nv (.one (.ptr 4 0))), (11, .nv (.one (.ptr 5 0))), (12, .nv (.one (.ptr 6 0))), (13, .nv (.one (.ptr 10 0)))] [.ro 2 n (gSl O S), .box 23 [.val (.int .u64 (q))], .box 23 [.val (.int .u64 (0))], .box 4 [.val (.bool false)], .box 23 [.val (.int .u64 (x))], .box 23 [.val (.int .u64 (y))], .box 23 [.val (.int .u64 (z))], .robox 22 [.own 0], .robox 3 [.val (.int .i64 c)], .robox 23 [.val (.int .u64 t)], .box 50 [.val (.bool true), .val (.int .u64 s)]]) .ret (mkSt 62 [] [.ro 2 n (gSl O S), .box 23 [.val (.int .u64 (q))], .box 23 [.val (.int .u64 (x))], .box 4 [.val (.bool true)], .box 23 [.val (.int .u64 (x))], .box 23 [.val (.int .u64 (x))], .box 23 [.val (.int .u64 (z'))], .robox 22 [.own 0], .robox 3 [.val (.int .i64 c)], .robox 23 [.val (.int .u64 t)]]) :=
  codeL_run Gg7_ok (orc := ⟨[false, true, true, true, false, true], []⟩) (obl := [(!true) = false,
      (z == (0 : Int)) = true,
      true = true,
      decide (IntKind.wrap IntKind.u64 (z + s) ≥ q) = true,
      decide (x > (9223372036854775808 : Int)) = false,
      decide (IntKind.wrap IntKind.u64 (z + s) ≥ q) = true,
      n = n,
      ∀ (i : Nat), i < n → O i = O i ∧ S i = S i ∧ True,
      q = q,
      x = x,
      true = true,
      x = x,
      x = x,
      IntKind.wrap IntKind.u64 (z + s) = z',
      c = c,
      t = t]) (by kernel_rfl) (by kernel_rfl) (.cons (by rfl) (.cons (by exact beq_iff_eq.2 ho) (.cons (by rfl) (.cons (by (simp only [hp]; exact decide_eq_true hg)) (.cons (by exact decide_eq_false hl) (.cons (by (simp only [hp]; exact decide_eq_true hg)) (.cons (by rfl) (.cons (by exact fun i _ => ⟨rfl, rfl, trivial⟩) (.cons (by rfl) (.cons (by rfl) (.cons (by rfl) (.cons (by rfl) (.cons (by rfl) (.cons (by assumption) (.cons (by rfl) (.cons (by rfl) .nil)))))))))))))))) (Nat.le_of_ble_eq_true (by kernel_rfl))

set_option maxHeartbeats 2000000 in
theorem nx_zl (n : Nat) (c t : Int) (O S : Nat → Int) (q x y z s x' z' : Int) (ho : z = 0) (hp : IntKind.wrap .u64 (z + s) = z') (hg : z' ≥ q) (hl : x > 9223372036854775808) : CodeOkL Try.prog 10 (subC [true, true, true, true, true, false, true, true, true] (bodyOf Try.f10)) (mkSt 62 [(7, .nv (.one (.ptr 1 0))), (8, .nv (.one (.ptr 2 0))), (9, .nv (.one (.ptr 3 0))), (10, .nv (.one (.ptr 4 0))), (11, .nv (.one (.ptr 5 0))), (12, .nv (.one (.ptr 6 0))), (13, .nv (.one (.ptr 10 0)))] [.ro 2 n (gSl O S), .box 23 [.val (.int .u64 (q))], .box 23 [.val (.int .u64 (0))], .box 4 [.val (.bool false)], .box 23 [.val (.int .u64 (x))], .box 23 [.val (.int .u64 (y))], .box 23 [.val (.int .u64 (z))], .robox 22 [.own 0], .robox 3 [.val (.int .i64 c)], .robox 23 [.val (.int .u64 t)], .box 50 [.val (.bool true), .val (.int .u64 s)]]) (.exit 0) (mkSt 62 [] [.ro 2 n (gSl O S), .box 23 [.val (.int .u64 (q))], .box 23 [.val (.int .u64 (0))], .box 4 [.val (.bool false)], .box 23 [.val (.int .u64 (x))], .box 23 [.val (.int .u64 (x))], .box 23 [.val (.int .u64 (z'))], .robox 22 [.own 0], .robox 3 [.val (.int .i64 c)], .robox 23 [.val (.int .u64 t)]]) :=
  codeL_run Gg7_ok (orc := ⟨[false, true, true, true, true], []⟩) (obl := [(!true) = false,
      (z == (0 : Int)) = true,
      true = true,
      decide (IntKind.wrap IntKind.u64 (z + s) ≥ q) = true,
      decide (x > (9223372036854775808 : Int)) = true,
      n = n,
      ∀ (i : Nat), i < n → O i = O i ∧ S i = S i ∧ True,
      q = q,
      (0 : Int) = (0 : Int),
      false = false,
      x = x,
      x = x,
      IntKind.wrap IntKind.u64 (z + s) = z',
      c = c,
      t = t]) (by kernel_rfl) (by kernel_rfl) (.cons (by rfl) (.cons (by exact beq_iff_eq.2 ho) (.cons (by rfl) (.cons (by (simp only [hp]; exact decide_eq_true hg)) (.cons (by exact decide_eq_true hl) (.cons (by rfl) (.cons (by exact fun i _ => ⟨rfl, rfl, trivial⟩) (.cons (by rfl) (.cons (by rfl) (.cons (by rfl) (.cons (by rfl) (.cons (by rfl) (.cons (by assumption) (.cons (by rfl) (.cons (by rfl) .nil))))))))))))))) (Nat.le_of_ble_eq_true (by kernel_rfl))

set_option maxHeartbeats 2000000 in
theorem nx_on (n : Nat) (c t : Int) (O S : Nat → Int) (q x y z s x' z' : Int) (ho : ¬ z = 0) (hp : IntKind.wrap .u64 (z + s) = z') (hx : IntKind.wrap .u64 (x + s) = x') (hg : ¬ z' ≥ q) : CodeOkL Try.prog 10 (subC [true, true, true, true, true, false, true, true, true] (bodyOf Try.f10)) (mkSt 62 [(7, .nv (.one (.ptr 1 0))), (8, .nv (.one (.ptr 2 0))), (9, .nv (.one (.ptr 3 0))), (10, .nv (.one (.ptr 4 0))), (11, .nv (.one (.ptr 5 0))), (12, .nv (.one (.ptr 6 0))), (13, .nv (.one (.ptr 10 0)))] [.ro 2 n (gSl O S), .box 23 [.val (.int .u64 (q))], .box 23 [.val (.int .u64 (0))], .box 4 [.val (.bool false)], .box 23 [.val (.int .u64 (x))], .box 23 [.val (.int .u64 (y))], .box 23 [.val (.int .u64 (z))], .robox 22 [.own 0], .robox 3 [.val (.int .i64 c)], .robox 23 [.val (.int .u64 t)], .box 50 [.val (.bool true), .val (.int .u64 s)]]) .normal (mkSt 62 [] [.ro 2 n (gSl O S), .box 23 [.val (.int .u64 (q))], .box 23 [.val (.int .u64 (0))], .box 4 [.val (.bool false)], .box 23 [.val (.int .u64 (x'))], .box 23 [.val (.int .u64 (y))], .box 23 [.val (.int .u64 (z'))], .robox 22 [.own 0], .robox 3 [.val (.int .i64 c)], .robox 23 [.val (.int .u64 t)]]) :=
  codeL_run Gg7_ok (orc := ⟨[false, false, true, false, false, false], []⟩) (obl := [(!true) = false,
      (z == (0 : Int)) = false,
      true = true,
      decide (IntKind.wrap IntKind.u64 (z + s) ≥ q) = false,
      false = false,
      decide (IntKind.wrap IntKind.u64 (z + s) ≥ q) = false,
      n = n,
      ∀ (i : Nat), i < n → O i = O i ∧ S i = S i ∧ True,
      q = q,
      (0 : Int) = (0 : Int),
      false = false,
      IntKind.wrap IntKind.u64 (x + s) = x',
      y = y,
      IntKind.wrap IntKind.u64 (z + s) = z',
      c = c,
      t = t]) (by kernel_rfl) (by kernel_rfl) (.cons (by rfl) (.cons (by exact beq_eq_false_iff_ne.2 ho) (.cons (by rfl) (.cons (by (simp only [hp]; exact decide_eq_false hg)) (.cons (by rfl) (.cons (by (simp only [hp]; exact decide_eq_false hg)) (.cons (by rfl) (.cons (by exact fun i _ => ⟨rfl, rfl, trivial⟩) (.cons (by rfl) (.cons (by rfl) (.cons (by rfl) (.cons (by assumption) (.cons (by rfl) (.cons (by assumption) (.cons (by rfl) (.cons (by rfl) .nil)))))))))))))))) (Nat.le_of_ble_eq_true (by kernel_rfl))

set_option maxHeartbeats 2000000 in
theorem nx_or (n : Nat) (c t : Int) (O S : Nat → Int) (q x y z s x' z' : Int) (ho : ¬ z = 0) (hp : IntKind.wrap .u64 (z + s) = z') (hg : z' ≥ q) (hl : ¬ y > 9223372036854775808) : CodeOkL Try.prog 10 (subC [true, true, true, true, true, false, true, true, true] (bodyOf Try.f10)) (mkSt 62 [(7, .nv (.one (.ptr 1 0))), (8, .nv (.one (.ptr 2 0))), (9, .nv (.one (.ptr 3 0))), (10, .nv (.one (.ptr 4 0))), (11, .nv (.one (.ptr 5 0))), (12, .nv (.one (.ptr 6 0))), (13, .nv (.one (.ptr 10 0)))] [.ro 2 n (gSl O S), .box 23 [.val (.int .u64 (q))], .box 23 [.val (.int .u64 (0))], .box 4 [.val (.bool false)], .box 23 [.val (.int .u64 (x))], .box 23 [.val (.int .u64 (y))], .box 23 [.val (.int .u64 (z))], .robox 22 [.own 0], .robox 3 [.val (.int .i64 c)], .robox 23 [.val (.int .u64 t)], .box 50 [.val (.bool true), .val (.int .u64 s)]]) .ret (mkSt 62 [] [.ro 2 n (gSl O S), .box 23 [.val (.int .u64 (q))], .box 23 [.val (.int .u64 (y))], .box 4 [.val (.bool true)], .box 23 [.val (.int .u64 (x))], .box 23 [.val (.int .u64 (y))], .box 23 [.val (.int .u64 (z'))], .robox 22 [.own 0], .robox 3 [.val (.int .i64 c)], .robox 23 [.val (.int .u64 t)]]) :=
  codeL_run Gg7_ok (orc := ⟨[false, false, true, true, false, true], []⟩) (obl := [(!true) = false,
      (z == (0 : Int)) = false,
      true = true,
      decide (IntKind.wrap IntKind.u64 (z + s) ≥ q) = true,
      decide (y > (9223372036854775808 : Int)) = false,
      decide (IntKind.wrap IntKind.u64 (z + s) ≥ q) = true,
      n = n,
      ∀ (i : Nat), i < n → O i = O i ∧ S i = S i ∧ True,
      q = q,
      y = y,
      true = true,
      x = x,
      y = y,
      IntKind.wrap IntKind.u64 (z + s) = z',
      c = c,
      t = t]) (by kernel_rfl) (by kernel_rfl) (.cons (by rfl) (.cons (by exact beq_eq_false_iff_ne.2 ho) (.cons (by rfl) (.cons (by (simp only [hp]; exact decide_eq_true hg)) (.cons (by exact decide_eq_false hl) (.cons (by (simp only [hp]; exact decide_eq_true hg)) (.cons (by rfl) (.cons (by exact fun i _ => ⟨rfl, rfl, trivial⟩) (.cons (by rfl) (.cons (by rfl) (.cons (by rfl) (.cons (by rfl) (.cons (by rfl) (.cons (by assumption) (.cons (by rfl) (.cons (by rfl) .nil)))))))))))))))) (Nat.le_of_ble_eq_true (by kernel_rfl))

set_option maxHeartbeats 2000000 in
theorem nx_ol (n : Nat) (c t : Int) (O S : Nat → Int) (q x y z s x' z' : Int) (ho : ¬ z = 0) (hp : IntKind.wrap .u64 (z + s) = z') (hg : z' ≥ q) (hl : y > 9223372036854775808) : CodeOkL Try.prog 10 (subC [true, true, true, true, true, false, true, true, true] (bodyOf Try.f10)) (mkSt 62 [(7, .nv (.one (.ptr 1 0))), (8, .nv (.one (.ptr 2 0))), (9, .nv (.one (.ptr 3 0))), (10, .nv (.one (.ptr 4 0))), (11, .nv (.one (.ptr 5 0))), (12, .nv (.one (.ptr 6 0))), (13, .nv (.one (.ptr 10 0)))] [.ro 2 n (gSl O S), .box 23 [.val (.int .u64 (q))], .box 23 [.val (.int .u64 (0))], .box 4 [.val (.bool false)], .box 23 [.val (.int .u64 (x))], .box 23 [.val (.int .u64 (y))], .box 23 [.val (.int .u64 (z))], .robox 22 [.own 0], .robox 3 [.val (.int .i64 c)], .robox 23 [.val (.int .u64 t)], .box 50 [.val (.bool true), .val (.int .u64 s)]]) (.exit 0) (mkSt 62 [] [.ro 2 n (gSl O S), .box 23 [.val (.int .u64 (q))], .box 23 [.val (.int .u64 (0))], .box 4 [.val (.bool false)], .box 23 [.val (.int .u64 (x))], .box 23 [.val (.int .u64 (y))], .box 23 [.val (.int .u64 (z'))], .robox 22 [.own 0], .robox 3 [.val (.int .i64 c)], .robox 23 [.val (.int .u64 t)]]) :=
  codeL_run Gg7_ok (orc := ⟨[false, false, true, true, true], []⟩) (obl := [(!true) = false,
      (z == (0 : Int)) = false,
      true = true,
      decide (IntKind.wrap IntKind.u64 (z + s) ≥ q) = true,
      decide (y > (9223372036854775808 : Int)) = true,
      n = n,
      ∀ (i : Nat), i < n → O i = O i ∧ S i = S i ∧ True,
      q = q,
      (0 : Int) = (0 : Int),
      false = false,
      x = x,
      y = y,
      IntKind.wrap IntKind.u64 (z + s) = z',
      c = c,
      t = t]) (by kernel_rfl) (by kernel_rfl) (.cons (by rfl) (.cons (by exact beq_eq_false_iff_ne.2 ho) (.cons (by rfl) (.cons (by (simp only [hp]; exact decide_eq_true hg)) (.cons (by exact decide_eq_true hl) (.cons (by rfl) (.cons (by exact fun i _ => ⟨rfl, rfl, trivial⟩) (.cons (by rfl) (.cons (by rfl) (.cons (by rfl) (.cons (by rfl) (.cons (by rfl) (.cons (by assumption) (.cons (by rfl) (.cons (by rfl) .nil))))))))))))))) (Nat.le_of_ble_eq_true (by kernel_rfl))

set_option maxHeartbeats 2000000 in
theorem nx_9 (n : Nat) (c t : Int) (O S : Nat → Int) (q x y z : Int) : CodeOkL Try.prog 1 (subC [true, true, true, true, true, true] (bodyOf Try.f10)) (mkSt 62 [(7, .nv (.one (.ptr 1 0))), (8, .nv (.one (.ptr 2 0))), (9, .nv (.one (.ptr 3 0))), (10, .nv (.one (.ptr 4 0))), (11, .nv (.one (.ptr 5 0))), (12, .nv (.one (.ptr 6 0))), (33, .nv (.one (.clo 25 [.ptr 7 0, .ptr 9 0, .ptr 8 0])))] [.ro 2 n (gSl O S), .box 23 [.val (.int .u64 (q))], .box 23 [.val (.int .u64 (0))], .box 4 [.val (.bool false)], .box 23 [.val (.int .u64 (x))], .box 23 [.val (.int .u64 (y))], .box 23 [.val (.int .u64 (z))], .robox 22 [.own 0], .robox 3 [.val (.int .i64 c)], .robox 23 [.val (.int .u64 t)]]) .ret (mkSt 62 [(8, .nv (.one (.ptr 1 0))), (9, .nv (.one (.ptr 2 0)))] [.gone, .box 23 [.val (.int .u64 (0))], .box 4 [.val (.bool false)]]) :=
  codeL_run Gg7_ok (orc := ⟨[], []⟩) (obl := [(0 : Nat) = (0 : Nat),
      (0 : Nat) = (0 : Nat),
      (0 : Int) = (0 : Int),
      false = false]) (by kernel_rfl) (by kernel_rfl) (.cons (by rfl) (.cons (by rfl) (.cons (by rfl) (.cons (by rfl) .nil)))) (Nat.le_of_ble_eq_true (by kernel_rfl))
end Go.Proofs.Ytoincoicgfnbiaa
