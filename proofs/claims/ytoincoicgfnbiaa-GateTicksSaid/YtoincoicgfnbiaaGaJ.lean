/- Runs of Go code, as printed by a program: no condition beyond those that each states. -/
import Derived.Test.YtoincoicgfnbiaaGaI
import Derived.Test.YtoincoicgfnbiaaChecked
import Derived.KernelRfl
namespace Go.Proofs.Ytoincoicgfnbiaa
set_option linter.unusedVariables false
set_option linter.unusedSimpArgs false
set_option maxRecDepth 100000
open Go.RowKit E
attribute [local irreducible] allS okN chk pre sl slt opB opZ alwB rndN gmB lft hlv isB opnN spn opj tmj
set_option maxHeartbeats 2000000 in
theorem ra_r (n i c : Nat) (O S : Nat → Int) (t t' : Int) (hi : i < n) (hok : okN n S = true) (hn : n ≤ 64) (hc : c ≤ 7) (ht : 0 ≤ t) (hz : isB (O (slt n S t)) c = true) (hp : IntKind.wrap .u64 (t + S i) = t') : CodeOk Try.prog 1 (loopOf Try.f16 0) (mkSt 25 [(0, .nv (.one (.own 0))), (1, iA c), (5, .nv (.one (.val (.int .u64 (t))))), (6, iA i)] [.ro 2 n (gSl O S)]) .normal (mkSt 25 [(0, .nv (.one (.own 0))), (1, iA c), (5, .nv (.one (.val (.int .u64 (t'))))), (6, iA (i + 1 : Nat))] [.ro 2 n (gSl O S)]) :=
  code_run Gg4_ok (orc := ⟨[true, false], []⟩) (obl := [decide ((↑i : Int) < (↑n : Int)) = true,
      okN n (sOf (gSl O S)) = true,
      (0 : Int) ≤ t,
      Int.toNat (↑c : Int) ≤ (7 : Nat),
      (↑c : Int) = (↑(Int.toNat (↑c : Int)) : Int),
      t = t,
      n = n,
      ∀ (i : Nat), i < n → O i = oOf (gSl O S) i ∧ S i = sOf (gSl O S) i ∧ True,
      (!isB (oOf (gSl O S) (slt n (sOf (gSl O S)) t)) (Int.toNat (↑c : Int))) = false,
      (0 : Int) ≤ (↑i : Int),
      (↑i : Int) < (↑n : Int),
      Int.toNat (↑i : Int) < n,
      (↑c : Int) = (↑c : Int),
      IntKind.wrap IntKind.u64 (t + S (Int.toNat (↑i : Int))) = t',
      IntKind.wrap IntKind.i64 ((↑i : Int) + (1 : Int)) = (↑(i + (1 : Nat)) : Int),
      n = n,
      ∀ (i : Nat), i < n → O i = O i ∧ S i = S i ∧ True]) (by kernel_rfl) (.cons (by exact decide_eq_true (by omega)) (.cons (by assumption) (.cons (by assumption) (.cons (by assumption) (.cons (by rfl) (.cons (by rfl) (.cons (by rfl) (.cons (by exact fun i _ => ⟨rfl, rfl, trivial⟩) (.cons (by (show (!isB (O (slt n S t)) c) = false; rw [hz]; rfl)) (.cons (by omega) (.cons (by omega) (.cons (by assumption) (.cons (by rfl) (.cons (by assumption) (.cons (by exact w64 (by omega) (by omega)) (.cons (by rfl) (.cons (by exact fun i _ => ⟨rfl, rfl, trivial⟩) .nil))))))))))))))))) (Nat.le_of_ble_eq_true (by kernel_rfl))

set_option maxHeartbeats 2000000 in
theorem ra_b (n i c : Nat) (O S : Nat → Int) (t : Int) (hi : i < n) (hok : okN n S = true) (hn : n ≤ 64) (hc : c ≤ 7) (ht : 0 ≤ t) (hz : isB (O (slt n S t)) c = false) : CodeOk Try.prog 1 (loopOf Try.f16 0) (mkSt 25 [(0, .nv (.one (.own 0))), (1, iA c), (5, .nv (.one (.val (.int .u64 (t))))), (6, iA i)] [.ro 2 n (gSl O S)]) .ret (mkSt 25 [(4, bA false)] [.ro 2 n (gSl O S)]) :=
  code_run Gg4_ok (orc := ⟨[true, true], []⟩) (obl := [decide ((↑i : Int) < (↑n : Int)) = true,
      okN n (sOf (gSl O S)) = true,
      (0 : Int) ≤ t,
      Int.toNat (↑c : Int) ≤ (7 : Nat),
      (↑c : Int) = (↑(Int.toNat (↑c : Int)) : Int),
      t = t,
      n = n,
      ∀ (i : Nat), i < n → O i = oOf (gSl O S) i ∧ S i = sOf (gSl O S) i ∧ True,
      (!isB (oOf (gSl O S) (slt n (sOf (gSl O S)) t)) (Int.toNat (↑c : Int))) = true,
      false = false,
      n = n,
      ∀ (i : Nat), i < n → O i = O i ∧ S i = S i ∧ True]) (by kernel_rfl) (.cons (by exact decide_eq_true (by omega)) (.cons (by assumption) (.cons (by assumption) (.cons (by assumption) (.cons (by rfl) (.cons (by rfl) (.cons (by rfl) (.cons (by exact fun i _ => ⟨rfl, rfl, trivial⟩) (.cons (by (show (!isB (O (slt n S t)) c) = true; rw [hz]; rfl)) (.cons (by rfl) (.cons (by rfl) (.cons (by exact fun i _ => ⟨rfl, rfl, trivial⟩) .nil)))))))))))) (Nat.le_of_ble_eq_true (by kernel_rfl))

set_option maxHeartbeats 2000000 in
theorem ra_e (n c : Nat) (O S : Nat → Int) (t : Int) (hn : n ≤ 64) : CodeOk Try.prog 1 (loopOf Try.f16 0) (mkSt 25 [(0, .nv (.one (.own 0))), (1, iA c), (5, .nv (.one (.val (.int .u64 (t))))), (6, iA n)] [.ro 2 n (gSl O S)]) (.exit 0) (mkSt 25 [] [.ro 2 n (gSl O S)]) :=
  code_run Gg4_ok (orc := ⟨[false], []⟩) (obl := [decide ((↑n : Int) < (↑n : Int)) = false,
      n = n,
      ∀ (i : Nat), i < n → O i = O i ∧ S i = S i ∧ True]) (by kernel_rfl) (.cons (by exact decide_eq_false (by omega)) (.cons (by rfl) (.cons (by exact fun i _ => ⟨rfl, rfl, trivial⟩) .nil))) (Nat.le_of_ble_eq_true (by kernel_rfl))

set_option maxHeartbeats 2000000 in
theorem ra_f (n c : Nat) (O S : Nat → Int) (l : CodeOk Try.prog 1 (.loop (loopOf Try.f16 0)) (mkSt 25 [(0, .nv (.one (.own 0))), (1, iA c), (5, .nv (.one (.val (.int .u64 (0))))), (6, iA 0)] [.ro 2 n (gSl O S)]) (.exit 0) (mkSt 25 [] [.ro 2 n (gSl O S)])) : FnOk Try.prog 16 ([.nv (.one (.own 0)), iA c]) ([.ro 2 n (gSl O S)]) (bA true) ([.gone]) :=
  fn_run Gg4_ok Try.func16 (orc := ⟨[], [⟨mkSt 25 [(0, .nv (.one (.own 0))), (1, iA c), (5, .nv (.one (.val (.int .u64 (0))))), (6, iA 0)] [.ro 2 n (gSl O S)], .exit 0, mkSt 25 [] [.ro 2 n (gSl O S)]⟩]⟩) (obl := [(↑c : Int) = (↑c : Int),
      (0 : Int) = (0 : Int),
      (0 : Int) = (0 : Int),
      n = n,
      ∀ (i : Nat), i < n → O i = O i ∧ S i = S i ∧ True,
      (1 : Nat) ≤ (1 : Nat),
      CodeOk Try.prog (1 : Nat) (Code.loop (loopOf Try.f16 (0 : Nat))) (mkSt (25 : Nat) [((0 : Nat), SV.nv (NV.one (At.own (0 : Nat)))), ((1 : Nat), iA (↑c : Int)), ((5 : Nat), SV.nv (NV.one (At.val (Value.int IntKind.u64 (0 : Int))))), ((6 : Nat), iA (0 : Int))] [Seg.ro (2 : Nat) n (gSl O S)]) (Ex.exit (0 : Nat)) (mkSt (25 : Nat) [] [Seg.ro (2 : Nat) n (gSl O S)]),
      true = true]) (by kernel_rfl) (.cons (by rfl) (.cons (by rfl) (.cons (by rfl) (.cons (by rfl) (.cons (by exact fun i _ => ⟨rfl, rfl, trivial⟩) (.cons (by trivial) (.cons (by assumption) (.cons (by rfl) .nil)))))))) (Nat.le_of_ble_eq_true (by kernel_rfl))

set_option maxHeartbeats 2000000 in
theorem ra_g (n c : Nat) (O S : Nat → Int) (l : CodeOk Try.prog 1 (.loop (loopOf Try.f16 0)) (mkSt 25 [(0, .nv (.one (.own 0))), (1, iA c), (5, .nv (.one (.val (.int .u64 (0))))), (6, iA 0)] [.ro 2 n (gSl O S)]) .ret (mkSt 25 [(4, bA false)] [.ro 2 n (gSl O S)])) : FnOk Try.prog 16 ([.nv (.one (.own 0)), iA c]) ([.ro 2 n (gSl O S)]) (bA false) ([.gone]) :=
  fn_run Gg4_ok Try.func16 (orc := ⟨[], [⟨mkSt 25 [(0, .nv (.one (.own 0))), (1, iA c), (5, .nv (.one (.val (.int .u64 (0))))), (6, iA 0)] [.ro 2 n (gSl O S)], .ret, mkSt 25 [(4, bA false)] [.ro 2 n (gSl O S)]⟩]⟩) (obl := [(↑c : Int) = (↑c : Int),
      (0 : Int) = (0 : Int),
      (0 : Int) = (0 : Int),
      n = n,
      ∀ (i : Nat), i < n → O i = O i ∧ S i = S i ∧ True,
      (1 : Nat) ≤ (1 : Nat),
      CodeOk Try.prog (1 : Nat) (Code.loop (loopOf Try.f16 (0 : Nat))) (mkSt (25 : Nat) [((0 : Nat), SV.nv (NV.one (At.own (0 : Nat)))), ((1 : Nat), iA (↑c : Int)), ((5 : Nat), SV.nv (NV.one (At.val (Value.int IntKind.u64 (0 : Int))))), ((6 : Nat), iA (0 : Int))] [Seg.ro (2 : Nat) n (gSl O S)]) Ex.ret (mkSt (25 : Nat) [((4 : Nat), bA false)] [Seg.ro (2 : Nat) n (gSl O S)]),
      false = false]) (by kernel_rfl) (.cons (by rfl) (.cons (by rfl) (.cons (by rfl) (.cons (by rfl) (.cons (by exact fun i _ => ⟨rfl, rfl, trivial⟩) (.cons (by trivial) (.cons (by assumption) (.cons (by rfl) .nil)))))))) (Nat.le_of_ble_eq_true (by kernel_rfl))

set_option maxHeartbeats 2000000 in
theorem rs_r (n c : Nat) (O S : Nat → Int) (a v w v' : Int) (hok : okN n S = true) (hn : n ≤ 64) (hc : c ≤ 7) (hw : IntKind.wrap .u64 (a + v) = w) (ht : 0 ≤ w) (hz : isB (O (slt n S w)) c = true) (hR : pre S n ≠ 0) (hp : IntKind.wrap .u64 (v + IntKind.wrap .u64 (pre S (slt n S w + 1) - Int.tmod w (pre S n))) = v') : CodeOk Try.prog 1 (loopOf Try.f17 0) (mkSt 39 [(0, .nv (.one (.own 0))), (1, iA c), (2, .nv (.one (.val (.int .u64 (a))))), (7, .nv (.one (.val (.int .u64 (v)))))] [.ro 2 n (gSl O S)]) .normal (mkSt 39 [(0, .nv (.one (.own 0))), (1, iA c), (2, .nv (.one (.val (.int .u64 (a))))), (7, .nv (.one (.val (.int .u64 (v')))))] [.ro 2 n (gSl O S)]) :=
  code_run Gg4_ok (orc := ⟨[true], []⟩) (obl := [okN n (sOf (gSl O S)) = true,
      (0 : Int) ≤ IntKind.wrap IntKind.u64 (a + v),
      Int.toNat (↑c : Int) ≤ (7 : Nat),
      (↑c : Int) = (↑(Int.toNat (↑c : Int)) : Int),
      IntKind.wrap IntKind.u64 (a + v) = IntKind.wrap IntKind.u64 (a + v),
      n = n,
      ∀ (i : Nat), i < n → O i = oOf (gSl O S) i ∧ S i = sOf (gSl O S) i ∧ True,
      isB (oOf (gSl O S) (slt n (sOf (gSl O S)) (IntKind.wrap IntKind.u64 (a + v)))) (Int.toNat (↑c : Int)) = true,
      okN n (sOf (gSl O S)) = true,
      (0 : Int) ≤ IntKind.wrap IntKind.u64 (a + v),
      IntKind.wrap IntKind.u64 (a + v) = IntKind.wrap IntKind.u64 (a + v),
      n = n,
      ∀ (i : Nat), i < n → O i = oOf (gSl O S) i ∧ S i = sOf (gSl O S) i ∧ True,
      okN n (sOf (gSl O S)) = true,
      n = n,
      ∀ (i : Nat), i < n → O i = oOf (gSl O S) i ∧ S i = sOf (gSl O S) i ∧ True,
      pre (sOf (gSl O S)) n ≠ (0 : Int),
      (↑c : Int) = (↑c : Int),
      a = a,
      IntKind.wrap IntKind.u64 (v + IntKind.wrap IntKind.u64 (pre (sOf (gSl O S)) (slt n (sOf (gSl O S)) (IntKind.wrap IntKind.u64 (a + v)) + (1 : Nat)) - Int.tmod (IntKind.wrap IntKind.u64 (a + v)) (pre (sOf (gSl O S)) n))) = v',
      n = n,
      ∀ (i : Nat), i < n → O i = O i ∧ S i = S i ∧ True]) (by kernel_rfl) (.cons (by assumption) (.cons (by (rw [hw]; exact ht)) (.cons (by assumption) (.cons (by rfl) (.cons (by rfl) (.cons (by rfl) (.cons (by exact fun i _ => ⟨rfl, rfl, trivial⟩) (.cons (by (show isB (O (slt n S (IntKind.wrap .u64 (a + v)))) c = true; rw [hw]; exact hz)) (.cons (by assumption) (.cons (by (rw [hw]; exact ht)) (.cons (by rfl) (.cons (by rfl) (.cons (by exact fun i _ => ⟨rfl, rfl, trivial⟩) (.cons (by assumption) (.cons (by rfl) (.cons (by exact fun i _ => ⟨rfl, rfl, trivial⟩) (.cons (by assumption) (.cons (by rfl) (.cons (by rfl) (.cons (by (simp only [hw]; exact hp)) (.cons (by rfl) (.cons (by exact fun i _ => ⟨rfl, rfl, trivial⟩) .nil)))))))))))))))))))))) (Nat.le_of_ble_eq_true (by kernel_rfl))

set_option maxHeartbeats 2000000 in
theorem rs_e (n c : Nat) (O S : Nat → Int) (a v w : Int) (hok : okN n S = true) (hn : n ≤ 64) (hc : c ≤ 7) (hw : IntKind.wrap .u64 (a + v) = w) (ht : 0 ≤ w) (hz : isB (O (slt n S w)) c = false) : CodeOk Try.prog 1 (loopOf Try.f17 0) (mkSt 39 [(0, .nv (.one (.own 0))), (1, iA c), (2, .nv (.one (.val (.int .u64 (a))))), (7, .nv (.one (.val (.int .u64 (v)))))] [.ro 2 n (gSl O S)]) (.exit 0) (mkSt 39 [(7, .nv (.one (.val (.int .u64 (v)))))] [.ro 2 n (gSl O S)]) :=
  code_run Gg4_ok (orc := ⟨[false], []⟩) (obl := [okN n (sOf (gSl O S)) = true,
      (0 : Int) ≤ IntKind.wrap IntKind.u64 (a + v),
      Int.toNat (↑c : Int) ≤ (7 : Nat),
      (↑c : Int) = (↑(Int.toNat (↑c : Int)) : Int),
      IntKind.wrap IntKind.u64 (a + v) = IntKind.wrap IntKind.u64 (a + v),
      n = n,
      ∀ (i : Nat), i < n → O i = oOf (gSl O S) i ∧ S i = sOf (gSl O S) i ∧ True,
      isB (oOf (gSl O S) (slt n (sOf (gSl O S)) (IntKind.wrap IntKind.u64 (a + v)))) (Int.toNat (↑c : Int)) = false,
      v = v,
      n = n,
      ∀ (i : Nat), i < n → O i = O i ∧ S i = S i ∧ True]) (by kernel_rfl) (.cons (by assumption) (.cons (by (rw [hw]; exact ht)) (.cons (by assumption) (.cons (by rfl) (.cons (by rfl) (.cons (by rfl) (.cons (by exact fun i _ => ⟨rfl, rfl, trivial⟩) (.cons (by (show isB (O (slt n S (IntKind.wrap .u64 (a + v)))) c = false; rw [hw]; exact hz)) (.cons (by rfl) (.cons (by rfl) (.cons (by exact fun i _ => ⟨rfl, rfl, trivial⟩) .nil))))))))))) (Nat.le_of_ble_eq_true (by kernel_rfl))

set_option maxHeartbeats 2000000 in
theorem rs_f (n c : Nat) (O S : Nat → Int) (t a v : Int) (hok : okN n S = true) (hR : pre S n ≠ 0) (ha : Int.tmod t (pre S n) = a) (l : CodeOk Try.prog 1 (.loop (loopOf Try.f17 0)) (mkSt 39 [(0, .nv (.one (.own 0))), (1, iA c), (2, .nv (.one (.val (.int .u64 (a))))), (7, .nv (.one (.val (.int .u64 (0)))))] [.ro 2 n (gSl O S)]) (.exit 0) (mkSt 39 [(7, .nv (.one (.val (.int .u64 (v)))))] [.ro 2 n (gSl O S)])) : FnOk Try.prog 17 ([.nv (.one (.own 0)), iA c, .nv (.one (.val (.int .u64 (t))))]) ([.ro 2 n (gSl O S)]) (.nv (.one (.val (.int .u64 (v))))) ([.gone]) :=
  fn_run Gg4_ok Try.func17 (orc := ⟨[], [⟨mkSt 39 [(0, .nv (.one (.own 0))), (1, iA c), (2, .nv (.one (.val (.int .u64 (a))))), (7, .nv (.one (.val (.int .u64 (0)))))] [.ro 2 n (gSl O S)], .exit 0, mkSt 39 [(7, .nv (.one (.val (.int .u64 (v)))))] [.ro 2 n (gSl O S)]⟩]⟩) (obl := [okN n (sOf (gSl O S)) = true,
      n = n,
      ∀ (i : Nat), i < n → O i = oOf (gSl O S) i ∧ S i = sOf (gSl O S) i ∧ True,
      pre (sOf (gSl O S)) n ≠ (0 : Int),
      (↑c : Int) = (↑c : Int),
      Int.tmod t (pre (sOf (gSl O S)) n) = a,
      (0 : Int) = (0 : Int),
      n = n,
      ∀ (i : Nat), i < n → O i = O i ∧ S i = S i ∧ True,
      (1 : Nat) ≤ (1 : Nat),
      CodeOk Try.prog (1 : Nat) (Code.loop (loopOf Try.f17 (0 : Nat))) (mkSt (39 : Nat) [((0 : Nat), SV.nv (NV.one (At.own (0 : Nat)))), ((1 : Nat), iA (↑c : Int)), ((2 : Nat), SV.nv (NV.one (At.val (Value.int IntKind.u64 a)))), ((7 : Nat), SV.nv (NV.one (At.val (Value.int IntKind.u64 (0 : Int)))))] [Seg.ro (2 : Nat) n (gSl O S)]) (Ex.exit (0 : Nat)) (mkSt (39 : Nat) [((7 : Nat), SV.nv (NV.one (At.val (Value.int IntKind.u64 v))))] [Seg.ro (2 : Nat) n (gSl O S)]),
      v = v]) (by kernel_rfl) (.cons (by assumption) (.cons (by rfl) (.cons (by exact fun i _ => ⟨rfl, rfl, trivial⟩) (.cons (by assumption) (.cons (by rfl) (.cons (by assumption) (.cons (by rfl) (.cons (by rfl) (.cons (by exact fun i _ => ⟨rfl, rfl, trivial⟩) (.cons (by trivial) (.cons (by assumption) (.cons (by rfl) .nil)))))))))))) (Nat.le_of_ble_eq_true (by kernel_rfl))
end Go.Proofs.Ytoincoicgfnbiaa
