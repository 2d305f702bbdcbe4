/- Runs of Go code, as printed by a program: no condition beyond those that each states. -/
import Derived.Test.YtoincoicgfnbiaaGaM
import Derived.Test.YtoincoicgfnbiaaET
import Derived.Test.YtoincoicgfnbiaaChecked
import Derived.KernelRfl
namespace Go.Proofs.Ytoincoicgfnbiaa
set_option linter.unusedVariables false
set_option linter.unusedSimpArgs false
set_option maxRecDepth 100000
open Go.RowKit E
attribute [local irreducible] allS okN chk pre sl slt opB opZ alwB rndN gmB lft hlv isB opnN spn opj tmj alwR stF rSt nxI nxV nxB ndQ
noncomputable def itR : Code := subC [true, true, true, true, true, true, false, true, false, false] (bodyOf Try.f25)
noncomputable def itL : List Oper := (opsOf itR).take 12
noncomputable def itC : Oper := ((opsOf itR).drop 12).headD default
noncomputable def itU : Oper := ((opsOf itR).drop 13).headD default
def idOf : Code → Nat
  | .region i _ _ => i
  | _ => 0
set_option maxHeartbeats 2000000 in
theorem it_0 (n y : Nat) (c t : Int) (O S : Nat → Int) (hok : okN n S = true) (ht : 0 ≤ t) : CodeOkL Try.prog 4 (subC [false] (bodyOf Try.f25)) (mkSt 44 [(0, .nv (.one (.val (.func (.yield y) #[] #[])))), (1, .nv (.one (.ptr 1 0))), (2, .nv (.one (.ptr 3 0))), (3, .nv (.one (.ptr 2 0)))] [.ro 2 n (gSl O S), .robox 22 [.own 0], .robox 3 [.val (.int .i64 c)], .robox 23 [.val (.int .u64 t)]]) .normal (mkSt 44 [(0, .nv (.one (.val (.func (.yield y) #[] #[])))), (1, .nv (.one (.ptr 1 0))), (2, .nv (.one (.ptr 3 0))), (3, .nv (.one (.ptr 2 0))), (5, iA (slt n S t : Nat)), (6, .nv (.one (.val (.int .u64 (lft n S t)))))] [.ro 2 n (gSl O S), .robox 22 [.own 0], .robox 3 [.val (.int .i64 c)], .robox 23 [.val (.int .u64 t)]]) :=
  codeL_run Gg6_ok (orc := ⟨[], []⟩) (obl := [okN n (sOf (gSl O S)) = true,
      (0 : Int) ≤ t,
      t = t,
      n = n,
      ∀ (i : Nat), i < n → O i = oOf (gSl O S) i ∧ S i = sOf (gSl O S) i ∧ True,
      Value.func (Fn.yield y) { toList := [] } { toList := [] } = Value.func (Fn.yield y) #[] #[],
      (0 : Nat) = (0 : Nat),
      (0 : Nat) = (0 : Nat),
      (0 : Nat) = (0 : Nat),
      (↑(slt n (sOf (gSl O S)) t) : Int) = (↑(slt n S t) : Int),
      lft n (sOf (gSl O S)) t = lft n S t,
      n = n,
      ∀ (i : Nat), i < n → O i = O i ∧ S i = S i ∧ True,
      c = c,
      t = t]) (by kernel_rfl) (by kernel_rfl) (.cons (by assumption) (.cons (by assumption) (.cons (by rfl) (.cons (by rfl) (.cons (by exact fun i _ => ⟨rfl, rfl, trivial⟩) (.cons (by rfl) (.cons (by rfl) (.cons (by rfl) (.cons (by rfl) (.cons (by rfl) (.cons (by rfl) (.cons (by rfl) (.cons (by exact fun i _ => ⟨rfl, rfl, trivial⟩) (.cons (by rfl) (.cons (by rfl) .nil))))))))))))))) (Nat.le_of_ble_eq_true (by kernel_rfl))

set_option maxHeartbeats 2000000 in
theorem it_1 (n y : Nat) (c t : Int) (O S : Nat → Int) (i : Nat) (r : Int) (hn : n ≤ 64) : CodeOkL Try.prog 4 (subC [true, false] (bodyOf Try.f25)) (mkSt 44 [(0, .nv (.one (.val (.func (.yield y) #[] #[])))), (1, .nv (.one (.ptr 1 0))), (2, .nv (.one (.ptr 3 0))), (3, .nv (.one (.ptr 2 0))), (5, iA i), (6, .nv (.one (.val (.int .u64 (r)))))] [.ro 2 n (gSl O S), .robox 22 [.own 0], .robox 3 [.val (.int .i64 c)], .robox 23 [.val (.int .u64 t)]]) .normal (mkSt 44 [(0, .nv (.one (.val (.func (.yield y) #[] #[])))), (1, .nv (.one (.ptr 1 0))), (2, .nv (.one (.ptr 3 0))), (3, .nv (.one (.ptr 2 0))), (5, iA i), (6, .nv (.one (.val (.int .u64 (r))))), (16, iA (2 * n + 1 : Nat)), (17, iA 0)] [.ro 2 n (gSl O S), .robox 22 [.own 0], .robox 3 [.val (.int .i64 c)], .robox 23 [.val (.int .u64 t)]]) :=
  codeL_run Gg6_ok (orc := ⟨[], []⟩) (obl := [Value.func (Fn.yield y) { toList := [] } { toList := [] } = Value.func (Fn.yield y) #[] #[],
      (0 : Nat) = (0 : Nat),
      (0 : Nat) = (0 : Nat),
      (0 : Nat) = (0 : Nat),
      (↑i : Int) = (↑i : Int),
      r = r,
      IntKind.wrap IntKind.i64 (IntKind.wrap IntKind.i64 ((2 : Int) * (↑n : Int)) + (1 : Int)) = (↑((2 : Nat) * n + (1 : Nat)) : Int),
      (0 : Int) = (0 : Int),
      n = n,
      ∀ (i : Nat), i < n → O i = O i ∧ S i = S i ∧ True,
      c = c,
      t = t]) (by kernel_rfl) (by kernel_rfl) (.cons (by rfl) (.cons (by rfl) (.cons (by rfl) (.cons (by rfl) (.cons (by rfl) (.cons (by rfl) (.cons (by (exact w64 (by rw [w64 (b := 2 * (n : Int)) rfl (by omega)]; omega) (by omega))) (.cons (by rfl) (.cons (by rfl) (.cons (by (simp; done)) (.cons (by rfl) (.cons (by rfl) .nil)))))))))))) (Nat.le_of_ble_eq_true (by kernel_rfl))

set_option maxHeartbeats 2000000 in
theorem it_2 (n y : Nat) (c t : Int) (O S : Nat → Int) (i k : Nat) (r : Int) : CodeOkL Try.prog 4 (subC [true, true, true, true, false] (bodyOf Try.f25)) (mkSt 44 [(0, .nv (.one (.val (.func (.yield y) #[] #[])))), (1, .nv (.one (.ptr 1 0))), (2, .nv (.one (.ptr 3 0))), (3, .nv (.one (.ptr 2 0))), (5, iA i), (6, .nv (.one (.val (.int .u64 (r))))), (16, iA (2 * n + 1 : Nat)), (17, iA k)] [.ro 2 n (gSl O S), .robox 22 [.own 0], .robox 3 [.val (.int .i64 c)], .robox 23 [.val (.int .u64 t)]]) .normal (mkSt 44 [(0, .nv (.one (.val (.func (.yield y) #[] #[])))), (1, .nv (.one (.ptr 1 0))), (2, .nv (.one (.ptr 3 0))), (3, .nv (.one (.ptr 2 0))), (5, iA i), (6, .nv (.one (.val (.int .u64 (r))))), (16, iA (2 * n + 1 : Nat)), (17, iA k), (18, bA (decide ((k : Int) < ((2 * n + 1 : Nat) : Int))))] [.ro 2 n (gSl O S), .robox 22 [.own 0], .robox 3 [.val (.int .i64 c)], .robox 23 [.val (.int .u64 t)]]) :=
  codeL_run Gg6_ok (orc := ⟨[], []⟩) (obl := [Value.func (Fn.yield y) { toList := [] } { toList := [] } = Value.func (Fn.yield y) #[] #[],
      (0 : Nat) = (0 : Nat),
      (0 : Nat) = (0 : Nat),
      (0 : Nat) = (0 : Nat),
      (↑i : Int) = (↑i : Int),
      r = r,
      (↑((2 : Nat) * n + (1 : Nat)) : Int) = (↑((2 : Nat) * n + (1 : Nat)) : Int),
      (↑k : Int) = (↑k : Int),
      decide ((↑k : Int) < (↑((2 : Nat) * n + (1 : Nat)) : Int)) = decide ((↑k : Int) < (↑((2 : Nat) * n + (1 : Nat)) : Int)),
      n = n,
      ∀ (i : Nat), i < n → O i = O i ∧ S i = S i ∧ True,
      c = c,
      t = t]) (by kernel_rfl) (by kernel_rfl) (.cons (by rfl) (.cons (by rfl) (.cons (by rfl) (.cons (by rfl) (.cons (by rfl) (.cons (by rfl) (.cons (by rfl) (.cons (by rfl) (.cons (by rfl) (.cons (by rfl) (.cons (by exact fun i _ => ⟨rfl, rfl, trivial⟩) (.cons (by rfl) (.cons (by rfl) .nil))))))))))))) (Nat.le_of_ble_eq_true (by kernel_rfl))

set_option maxHeartbeats 2000000 in
theorem it_3y (n y : Nat) (c t : Int) (O S : Nat → Int) (i k : Nat) (r : Int) (hk : k < 2 * n + 1) : CodeOkL Try.prog 4 (subC [true, true, true, true, true, false] (bodyOf Try.f25)) (mkSt 44 [(0, .nv (.one (.val (.func (.yield y) #[] #[])))), (1, .nv (.one (.ptr 1 0))), (2, .nv (.one (.ptr 3 0))), (3, .nv (.one (.ptr 2 0))), (5, iA i), (6, .nv (.one (.val (.int .u64 (r))))), (16, iA (2 * n + 1 : Nat)), (17, iA k), (18, bA (decide ((k : Int) < ((2 * n + 1 : Nat) : Int))))] [.ro 2 n (gSl O S), .robox 22 [.own 0], .robox 3 [.val (.int .i64 c)], .robox 23 [.val (.int .u64 t)]]) .normal (mkSt 44 [(0, .nv (.one (.val (.func (.yield y) #[] #[])))), (1, .nv (.one (.ptr 1 0))), (2, .nv (.one (.ptr 3 0))), (3, .nv (.one (.ptr 2 0))), (5, iA i), (6, .nv (.one (.val (.int .u64 (r))))), (16, iA (2 * n + 1 : Nat)), (17, iA k)] [.ro 2 n (gSl O S), .robox 22 [.own 0], .robox 3 [.val (.int .i64 c)], .robox 23 [.val (.int .u64 t)]]) :=
  codeL_run Gg6_ok (orc := ⟨[true], []⟩) (obl := [decide ((↑k : Int) < (↑((2 : Nat) * n + (1 : Nat)) : Int)) = true,
      Value.func (Fn.yield y) { toList := [] } { toList := [] } = Value.func (Fn.yield y) #[] #[],
      (0 : Nat) = (0 : Nat),
      (0 : Nat) = (0 : Nat),
      (0 : Nat) = (0 : Nat),
      (↑i : Int) = (↑i : Int),
      r = r,
      (↑((2 : Nat) * n + (1 : Nat)) : Int) = (↑((2 : Nat) * n + (1 : Nat)) : Int),
      (↑k : Int) = (↑k : Int),
      n = n,
      ∀ (i : Nat), i < n → O i = O i ∧ S i = S i ∧ True,
      c = c,
      t = t]) (by kernel_rfl) (by kernel_rfl) (.cons (by exact decide_eq_true (by omega)) (.cons (by rfl) (.cons (by rfl) (.cons (by rfl) (.cons (by rfl) (.cons (by rfl) (.cons (by rfl) (.cons (by rfl) (.cons (by rfl) (.cons (by rfl) (.cons (by (simp; done)) (.cons (by rfl) (.cons (by rfl) .nil))))))))))))) (Nat.le_of_ble_eq_true (by kernel_rfl))

set_option maxHeartbeats 2000000 in
theorem it_3n (n y : Nat) (c t : Int) (O S : Nat → Int) (i k : Nat) (r : Int) (hk : k = 2 * n + 1) : CodeOkL Try.prog 4 (subC [true, true, true, true, true, false] (bodyOf Try.f25)) (mkSt 44 [(0, .nv (.one (.val (.func (.yield y) #[] #[])))), (1, .nv (.one (.ptr 1 0))), (2, .nv (.one (.ptr 3 0))), (3, .nv (.one (.ptr 2 0))), (5, iA i), (6, .nv (.one (.val (.int .u64 (r))))), (16, iA (2 * n + 1 : Nat)), (17, iA k), (18, bA (decide ((k : Int) < ((2 * n + 1 : Nat) : Int))))] [.ro 2 n (gSl O S), .robox 22 [.own 0], .robox 3 [.val (.int .i64 c)], .robox 23 [.val (.int .u64 t)]]) (.exit 0) (mkSt 44 [] [.ro 2 n (gSl O S), .robox 22 [.own 0], .robox 3 [.val (.int .i64 c)], .robox 23 [.val (.int .u64 t)]]) :=
  codeL_run Gg6_ok (orc := ⟨[false], []⟩) (obl := [decide ((↑k : Int) < (↑((2 : Nat) * n + (1 : Nat)) : Int)) = false,
      n = n,
      ∀ (i : Nat), i < n → O i = O i ∧ S i = S i ∧ True,
      c = c,
      t = t]) (by kernel_rfl) (by kernel_rfl) (.cons (by exact decide_eq_false (by omega)) (.cons (by rfl) (.cons (by (simp; done)) (.cons (by rfl) (.cons (by rfl) .nil))))) (Nat.le_of_ble_eq_true (by kernel_rfl))

set_option maxHeartbeats 2000000 in
theorem it_4 (n y : Nat) (c t : Int) (O S : Nat → Int) (i k : Nat) (r : Int) (b : Bool) (hn : n ≤ 64) (hi : i < n) (hc : 0 ≤ c) (hb : opB (O i) c = b) : TailOk Try.prog 4 (idOf itR) itL itC itU (mkSt 44 [(0, .nv (.one (.val (.func (.yield y) #[] #[])))), (1, .nv (.one (.ptr 1 0))), (2, .nv (.one (.ptr 3 0))), (3, .nv (.one (.ptr 2 0))), (5, iA i), (6, .nv (.one (.val (.int .u64 (r))))), (16, iA (2 * n + 1 : Nat)), (17, iA k)] [.ro 2 n (gSl O S), .robox 22 [.own 0], .robox 3 [.val (.int .i64 c)], .robox 23 [.val (.int .u64 t)]]) (mkSt 44 [(0, .nv (.one (.val (.func (.yield y) #[] #[])))), (1, .nv (.one (.ptr 1 0))), (2, .nv (.one (.ptr 3 0))), (3, .nv (.one (.ptr 2 0))), (5, iA i), (6, .nv (.one (.val (.int .u64 (r))))), (16, iA (2 * n + 1 : Nat)), (17, iA k), (19, .nv (.one (.val (.func (.yield y) #[] #[])))), (30, .nv (.agg [.val (.bool b), .val (.int .u64 r)]))] [.ro 2 n (gSl O S), .robox 22 [.own 0], .robox 3 [.val (.int .i64 c)], .robox 23 [.val (.int .u64 t)]]):=
  tail_run Gg6_ok (by kernel_rfl) (by kernel_rfl) (orc := ⟨[], []⟩) (obl := [(0 : Int) ≤ (↑i : Int),
      (↑i : Int) < (↑n : Int),
      Int.toNat (↑i : Int) < n,
      (0 : Int) ≤ c,
      Value.func (Fn.yield y) { toList := [] } { toList := [] } = Value.func (Fn.yield y) #[] #[],
      (0 : Nat) = (0 : Nat),
      (0 : Nat) = (0 : Nat),
      (0 : Nat) = (0 : Nat),
      (↑i : Int) = (↑i : Int),
      r = r,
      (↑((2 : Nat) * n + (1 : Nat)) : Int) = (↑((2 : Nat) * n + (1 : Nat)) : Int),
      (↑k : Int) = (↑k : Int),
      Value.func (Fn.yield y) { toList := [] } { toList := [] } = Value.func (Fn.yield y) #[] #[],
      (bits BinOp.and IntKind.u8 (Int.fdiv (O (Int.toNat (↑i : Int))) ((2 : Int) ^ min (Int.toNat c) (IntKind.bits IntKind.u8))) (1 : Int) == (1 : Int)) = b,
      r = r,
      n = n,
      ∀ (i : Nat), i < n → O i = O i ∧ S i = S i ∧ True,
      c = c,
      t = t]) (by kernel_rfl) (.cons (by omega) (.cons (by omega) (.cons (by assumption) (.cons (by assumption) (.cons (by rfl) (.cons (by rfl) (.cons (by rfl) (.cons (by rfl) (.cons (by rfl) (.cons (by rfl) (.cons (by rfl) (.cons (by rfl) (.cons (by rfl) (.cons (by (show (bits .and .u8 ((O i).fdiv (2 ^ min c.toNat 8)) 1 == 1) = b; rw [← hb]; unfold opB; rfl)) (.cons (by rfl) (.cons (by rfl) (.cons (by (simp; done)) (.cons (by rfl) (.cons (by rfl) .nil))))))))))))))))))) (Nat.le_of_ble_eq_true (by kernel_rfl))

set_option maxHeartbeats 2000000 in
theorem it_5y (n y : Nat) (c t : Int) (O S : Nat → Int) (i k : Nat) (r : Int) : CodeOkL Try.prog 4 (subC [true, true, true, true, true, true, false, true, false, true] (bodyOf Try.f25)) (mkSt 44 [(0, .nv (.one (.val (.func (.yield y) #[] #[])))), (1, .nv (.one (.ptr 1 0))), (2, .nv (.one (.ptr 3 0))), (3, .nv (.one (.ptr 2 0))), (5, iA i), (6, .nv (.one (.val (.int .u64 (r))))), (16, iA (2 * n + 1 : Nat)), (17, iA k), (32, bA false)] [.ro 2 n (gSl O S), .robox 22 [.own 0], .robox 3 [.val (.int .i64 c)], .robox 23 [.val (.int .u64 t)]]) .normal (mkSt 44 [(0, .nv (.one (.val (.func (.yield y) #[] #[])))), (1, .nv (.one (.ptr 1 0))), (2, .nv (.one (.ptr 3 0))), (3, .nv (.one (.ptr 2 0))), (5, iA i), (6, .nv (.one (.val (.int .u64 (r))))), (16, iA (2 * n + 1 : Nat)), (17, iA k)] [.ro 2 n (gSl O S), .robox 22 [.own 0], .robox 3 [.val (.int .i64 c)], .robox 23 [.val (.int .u64 t)]]) :=
  codeL_run Gg6_ok (orc := ⟨[false], []⟩) (obl := [false = false,
      Value.func (Fn.yield y) { toList := [] } { toList := [] } = Value.func (Fn.yield y) #[] #[],
      (0 : Nat) = (0 : Nat),
      (0 : Nat) = (0 : Nat),
      (0 : Nat) = (0 : Nat),
      (↑i : Int) = (↑i : Int),
      r = r,
      (↑((2 : Nat) * n + (1 : Nat)) : Int) = (↑((2 : Nat) * n + (1 : Nat)) : Int),
      (↑k : Int) = (↑k : Int),
      n = n,
      ∀ (i : Nat), i < n → O i = O i ∧ S i = S i ∧ True,
      c = c,
      t = t]) (by kernel_rfl) (by kernel_rfl) (.cons (by rfl) (.cons (by rfl) (.cons (by rfl) (.cons (by rfl) (.cons (by rfl) (.cons (by rfl) (.cons (by rfl) (.cons (by rfl) (.cons (by rfl) (.cons (by rfl) (.cons (by exact fun i _ => ⟨rfl, rfl, trivial⟩) (.cons (by rfl) (.cons (by rfl) .nil))))))))))))) (Nat.le_of_ble_eq_true (by kernel_rfl))

set_option maxHeartbeats 2000000 in
theorem it_5n (n y : Nat) (c t : Int) (O S : Nat → Int) (i k : Nat) (r : Int) : CodeOkL Try.prog 4 (subC [true, true, true, true, true, true, false, true, false, true] (bodyOf Try.f25)) (mkSt 44 [(0, .nv (.one (.val (.func (.yield y) #[] #[])))), (1, .nv (.one (.ptr 1 0))), (2, .nv (.one (.ptr 3 0))), (3, .nv (.one (.ptr 2 0))), (5, iA i), (6, .nv (.one (.val (.int .u64 (r))))), (16, iA (2 * n + 1 : Nat)), (17, iA k), (32, bA true)] [.ro 2 n (gSl O S), .robox 22 [.own 0], .robox 3 [.val (.int .i64 c)], .robox 23 [.val (.int .u64 t)]]) .ret (mkSt 44 [] [.ro 2 n (gSl O S), .robox 22 [.own 0], .robox 3 [.val (.int .i64 c)], .robox 23 [.val (.int .u64 t)]]) :=
  codeL_run Gg6_ok (orc := ⟨[true], []⟩) (obl := [true = true,
      n = n,
      ∀ (i : Nat), i < n → O i = O i ∧ S i = S i ∧ True,
      c = c,
      t = t]) (by kernel_rfl) (by kernel_rfl) (.cons (by rfl) (.cons (by rfl) (.cons (by exact fun i _ => ⟨rfl, rfl, trivial⟩) (.cons (by rfl) (.cons (by rfl) .nil))))) (Nat.le_of_ble_eq_true (by kernel_rfl))

set_option maxHeartbeats 2000000 in
theorem it_6 (n y : Nat) (c t : Int) (O S : Nat → Int) (i j k : Nat) (r r' : Int) (hn : n ≤ 64) (hi : i < n) (hj : j < n) (hm : Int.tmod (IntKind.wrap .i64 ((i : Int) + 1)) (n : Int) = (j : Int)) (hS : S j = r') : CodeOkL Try.prog 4 (subC [true, true, true, true, true, true, false, true, true] (bodyOf Try.f25)) (mkSt 44 [(0, .nv (.one (.val (.func (.yield y) #[] #[])))), (1, .nv (.one (.ptr 1 0))), (2, .nv (.one (.ptr 3 0))), (3, .nv (.one (.ptr 2 0))), (5, iA i), (6, .nv (.one (.val (.int .u64 (r))))), (16, iA (2 * n + 1 : Nat)), (17, iA k)] [.ro 2 n (gSl O S), .robox 22 [.own 0], .robox 3 [.val (.int .i64 c)], .robox 23 [.val (.int .u64 t)]]) .normal (mkSt 44 [(0, .nv (.one (.val (.func (.yield y) #[] #[])))), (1, .nv (.one (.ptr 1 0))), (2, .nv (.one (.ptr 3 0))), (3, .nv (.one (.ptr 2 0))), (5, iA j), (6, .nv (.one (.val (.int .u64 (r'))))), (16, iA (2 * n + 1 : Nat)), (17, iA k)] [.ro 2 n (gSl O S), .robox 22 [.own 0], .robox 3 [.val (.int .i64 c)], .robox 23 [.val (.int .u64 t)]]) :=
  codeL_run Gg6_ok (orc := ⟨[], []⟩) (obl := [(↑n : Int) ≠ (0 : Int),
      (0 : Int) ≤ Int.tmod (IntKind.wrap IntKind.i64 ((↑i : Int) + (1 : Int))) (↑n : Int),
      Int.tmod (IntKind.wrap IntKind.i64 ((↑i : Int) + (1 : Int))) (↑n : Int) < (↑n : Int),
      Int.toNat (Int.tmod (IntKind.wrap IntKind.i64 ((↑i : Int) + (1 : Int))) (↑n : Int)) < n,
      Value.func (Fn.yield y) { toList := [] } { toList := [] } = Value.func (Fn.yield y) #[] #[],
      (0 : Nat) = (0 : Nat),
      (0 : Nat) = (0 : Nat),
      (0 : Nat) = (0 : Nat),
      Int.tmod (IntKind.wrap IntKind.i64 ((↑i : Int) + (1 : Int))) (↑n : Int) = (↑j : Int),
      S (Int.toNat (Int.tmod (IntKind.wrap IntKind.i64 ((↑i : Int) + (1 : Int))) (↑n : Int))) = r',
      (↑((2 : Nat) * n + (1 : Nat)) : Int) = (↑((2 : Nat) * n + (1 : Nat)) : Int),
      (↑k : Int) = (↑k : Int),
      n = n,
      ∀ (i : Nat), i < n → O i = O i ∧ S i = S i ∧ True,
      c = c,
      t = t]) (by kernel_rfl) (by kernel_rfl) (.cons (by omega) (.cons (by (rw [hm]; omega)) (.cons (by (rw [hm]; omega)) (.cons (by (rw [hm]; omega)) (.cons (by rfl) (.cons (by rfl) (.cons (by rfl) (.cons (by rfl) (.cons (by assumption) (.cons (by (simp only [hm, Int.toNat_natCast]; exact hS)) (.cons (by rfl) (.cons (by rfl) (.cons (by rfl) (.cons (by (simp; done)) (.cons (by rfl) (.cons (by rfl) .nil)))))))))))))))) (Nat.le_of_ble_eq_true (by kernel_rfl))

set_option maxHeartbeats 2000000 in
theorem it_7 (n y : Nat) (c t : Int) (O S : Nat → Int) (i k : Nat) (r : Int) (hk : k < 200) : CodeOkL Try.prog 4 (subC [true, true, true, true, true, true, true] (bodyOf Try.f25)) (mkSt 44 [(0, .nv (.one (.val (.func (.yield y) #[] #[])))), (1, .nv (.one (.ptr 1 0))), (2, .nv (.one (.ptr 3 0))), (3, .nv (.one (.ptr 2 0))), (5, iA i), (6, .nv (.one (.val (.int .u64 (r))))), (16, iA (2 * n + 1 : Nat)), (17, iA k)] [.ro 2 n (gSl O S), .robox 22 [.own 0], .robox 3 [.val (.int .i64 c)], .robox 23 [.val (.int .u64 t)]]) .normal (mkSt 44 [(0, .nv (.one (.val (.func (.yield y) #[] #[])))), (1, .nv (.one (.ptr 1 0))), (2, .nv (.one (.ptr 3 0))), (3, .nv (.one (.ptr 2 0))), (5, iA i), (6, .nv (.one (.val (.int .u64 (r))))), (16, iA (2 * n + 1 : Nat)), (17, iA (k + 1 : Nat))] [.ro 2 n (gSl O S), .robox 22 [.own 0], .robox 3 [.val (.int .i64 c)], .robox 23 [.val (.int .u64 t)]]) :=
  codeL_run Gg6_ok (orc := ⟨[], []⟩) (obl := [Value.func (Fn.yield y) { toList := [] } { toList := [] } = Value.func (Fn.yield y) #[] #[],
      (0 : Nat) = (0 : Nat),
      (0 : Nat) = (0 : Nat),
      (0 : Nat) = (0 : Nat),
      (↑i : Int) = (↑i : Int),
      r = r,
      (↑((2 : Nat) * n + (1 : Nat)) : Int) = (↑((2 : Nat) * n + (1 : Nat)) : Int),
      IntKind.wrap IntKind.i64 ((↑k : Int) + (1 : Int)) = (↑(k + (1 : Nat)) : Int),
      n = n,
      ∀ (i : Nat), i < n → O i = O i ∧ S i = S i ∧ True,
      c = c,
      t = t]) (by kernel_rfl) (by kernel_rfl) (.cons (by rfl) (.cons (by rfl) (.cons (by rfl) (.cons (by rfl) (.cons (by rfl) (.cons (by rfl) (.cons (by rfl) (.cons (by exact w64 (by omega) (by omega)) (.cons (by rfl) (.cons (by exact fun i _ => ⟨rfl, rfl, trivial⟩) (.cons (by rfl) (.cons (by rfl) .nil)))))))))))) (Nat.le_of_ble_eq_true (by kernel_rfl))

set_option maxHeartbeats 2000000 in
theorem st_f (n : Nat) (c t : Int) (O S : Nat → Int) : FnOk Try.prog 22 ([.nv (.one (.own 0)), iA c, .nv (.one (.val (.int .u64 (t))))]) ([.ro 2 n (gSl O S)]) (.nv (.one (.clo 25 [.ptr 1 0, .ptr 3 0, .ptr 2 0]))) ([.ro 2 n (gSl O S), .box 22 [.own 0], .box 3 [.val (.int .i64 c)], .box 23 [.val (.int .u64 t)]]) :=
  fn_run Gg6_ok Try.func22 (orc := ⟨[], []⟩) (obl := [(0 : Nat) = (0 : Nat),
      (0 : Nat) = (0 : Nat),
      (0 : Nat) = (0 : Nat),
      n = n,
      ∀ (i : Nat), i < n → O i = O i ∧ S i = S i ∧ True,
      c = c,
      t = t]) (by kernel_rfl) (.cons (by rfl) (.cons (by rfl) (.cons (by rfl) (.cons (by rfl) (.cons (by exact fun i _ => ⟨rfl, rfl, trivial⟩) (.cons (by rfl) (.cons (by rfl) .nil))))))) (Nat.le_of_ble_eq_true (by kernel_rfl))
end Go.Proofs.Ytoincoicgfnbiaa
