/- Runs of Go code, as printed by a program: no condition beyond those that each states. -/
import Derived.Test.YtpldacdgifekmaaCbM
import Derived.Test.YtpldacdgifekmaaChecked
import Derived.KernelRfl
namespace Go.Proofs.Ytpldacdgifekmaa
set_option linter.unusedVariables false
set_option linter.unusedSimpArgs false
set_option maxRecDepth 100000
open Go.RowKit E
set_option maxHeartbeats 2000000 in
theorem bounds_end (i s h v m : Int) (len : Nat) (t x : Nat → Int) (wt : Nat → Bool) : CodeOk Try.prog 1 (loopOf Try.f4 0) (boundsS m len t x wt len i s h v) (.exit 0) (boundsE) :=
  code_run G2_ok (orc := ⟨[false], []⟩) (obl := [decide ((↑len : Int) < (↑len : Int)) = false]) (by kernel_rfl) (.cons (by exact decide_eq_false (by omega)) .nil) (Nat.le_of_ble_eq_true (by kernel_rfl))

set_option maxHeartbeats 2000000 in
theorem bounds_some (i s h v m : Int) (len k : Nat) (t x : Nat → Int) (wt : Nat → Bool) (hk : k < len) (hl : len ≤ 200) (bt : 0 ≤ t k ∧ t k ≤ 18446744073709551615) (bx : 0 ≤ x k ∧ x k ≤ 18446744073709551615) (v2 q n v3 : Int) (k1 : okB i s h v = true) (e2 : tickH i h v (t k) (wt k) = v2) (k2 : okB i s h v2 = true) (ew : waitV i s h v2 = q) (hq : 0 < q ∧ q ≤ 1099511627776) (m1 : mayB i s h (tickH i h v2 q true) = true) (m2 : mayB i s h (tickH i h v2 (q - 1) true) = false) (m3 : mayB i s h v2 = false) (hm : 0 ≤ m ∧ m ≤ 65535) (wm : IntKind.wrap IntKind.u64 (IntKind.wrap IntKind.u64 m + 1) = m + 1) (wq : IntKind.wrap IntKind.u64 (q - 1) = q - 1) (en : Int.tmod (x k) (m + 1) = n) (hn : 0 ≤ n ∧ n ≤ m) (e3 : sentH i s h v2 n = v3) (wn : IntKind.wrap IntKind.i64 (IntKind.wrap IntKind.i64 (-s) * IntKind.wrap IntKind.i64 m) = -(s * m)) (b1 : -(s * m) ≤ v3) (b2 : v3 ≤ h) : CodeOk Try.prog 1 (loopOf Try.f4 0) (boundsS m len t x wt k i s h v) .normal (boundsS m len t x wt (k + 1) i s h v3) :=
  code_run G2_ok (orc := ⟨[true, false, true, false, false, false, false], []⟩) (obl := [decide ((↑k : Int) < (↑len : Int)) = true,
      (0 : Int) ≤ (↑k : Int),
      (↑k : Int) < (↑len : Int),
      Int.toNat (↑k : Int) < len,
      (0 : Int) ≤ t (Int.toNat (↑k : Int)),
      t (Int.toNat (↑k : Int)) ≤ (18446744073709551615 : Int),
      (0 : Int) ≤ waitV (ifc i s h v i) (ifc i s h v s) (ifc i s h v h) (ifc i s h v (tickH i h v (t (Int.toNat (↑k : Int))) (wt (Int.toNat (↑k : Int))))),
      waitV (ifc i s h v i) (ifc i s h v s) (ifc i s h v h) (ifc i s h v (tickH i h v (t (Int.toNat (↑k : Int))) (wt (Int.toNat (↑k : Int))))) ≤ (18446744073709551615 : Int),
      (!mayB (ifc (ifc i s h v i) (ifc i s h v s) (ifc i s h v h) (ifc i s h v (tickH i h v (t (Int.toNat (↑k : Int))) (wt (Int.toNat (↑k : Int))))) (ifc i s h v i)) (ifc (ifc i s h v i) (ifc i s h v s) (ifc i s h v h) (ifc i s h v (tickH i h v (t (Int.toNat (↑k : Int))) (wt (Int.toNat (↑k : Int))))) (ifc i s h v s)) (ifc (ifc i s h v i) (ifc i s h v s) (ifc i s h v h) (ifc i s h v (tickH i h v (t (Int.toNat (↑k : Int))) (wt (Int.toNat (↑k : Int))))) (ifc i s h v h)) (ifc (ifc i s h v i) (ifc i s h v s) (ifc i s h v h) (ifc i s h v (tickH i h v (t (Int.toNat (↑k : Int))) (wt (Int.toNat (↑k : Int))))) (tickH (ifc i s h v i) (ifc i s h v h) (ifc i s h v (tickH i h v (t (Int.toNat (↑k : Int))) (wt (Int.toNat (↑k : Int))))) (waitV (ifc i s h v i) (ifc i s h v s) (ifc i s h v h) (ifc i s h v (tickH i h v (t (Int.toNat (↑k : Int))) (wt (Int.toNat (↑k : Int)))))) true))) = false,
      decide (waitV (ifc i s h v i) (ifc i s h v s) (ifc i s h v h) (ifc i s h v (tickH i h v (t (Int.toNat (↑k : Int))) (wt (Int.toNat (↑k : Int))))) > (0 : Int)) = true,
      (0 : Int) ≤ IntKind.wrap IntKind.u64 (waitV (ifc i s h v i) (ifc i s h v s) (ifc i s h v h) (ifc i s h v (tickH i h v (t (Int.toNat (↑k : Int))) (wt (Int.toNat (↑k : Int))))) - (1 : Int)),
      IntKind.wrap IntKind.u64 (waitV (ifc i s h v i) (ifc i s h v s) (ifc i s h v h) (ifc i s h v (tickH i h v (t (Int.toNat (↑k : Int))) (wt (Int.toNat (↑k : Int))))) - (1 : Int)) ≤ (18446744073709551615 : Int),
      mayB (ifc (ifc i s h v i) (ifc i s h v s) (ifc i s h v h) (ifc i s h v (tickH i h v (t (Int.toNat (↑k : Int))) (wt (Int.toNat (↑k : Int))))) (ifc i s h v i)) (ifc (ifc i s h v i) (ifc i s h v s) (ifc i s h v h) (ifc i s h v (tickH i h v (t (Int.toNat (↑k : Int))) (wt (Int.toNat (↑k : Int))))) (ifc i s h v s)) (ifc (ifc i s h v i) (ifc i s h v s) (ifc i s h v h) (ifc i s h v (tickH i h v (t (Int.toNat (↑k : Int))) (wt (Int.toNat (↑k : Int))))) (ifc i s h v h)) (ifc (ifc i s h v i) (ifc i s h v s) (ifc i s h v h) (ifc i s h v (tickH i h v (t (Int.toNat (↑k : Int))) (wt (Int.toNat (↑k : Int))))) (tickH (ifc i s h v i) (ifc i s h v h) (ifc i s h v (tickH i h v (t (Int.toNat (↑k : Int))) (wt (Int.toNat (↑k : Int))))) (IntKind.wrap IntKind.u64 (waitV (ifc i s h v i) (ifc i s h v s) (ifc i s h v h) (ifc i s h v (tickH i h v (t (Int.toNat (↑k : Int))) (wt (Int.toNat (↑k : Int))))) - (1 : Int))) true)) = false,
      (!(waitV (ifc i s h v i) (ifc i s h v s) (ifc i s h v h) (ifc i s h v (tickH i h v (t (Int.toNat (↑k : Int))) (wt (Int.toNat (↑k : Int))))) == (0 : Int)) == mayB (ifc i s h v i) (ifc i s h v s) (ifc i s h v h) (ifc i s h v (tickH i h v (t (Int.toNat (↑k : Int))) (wt (Int.toNat (↑k : Int)))))) = false,
      IntKind.wrap IntKind.u64 (IntKind.wrap IntKind.u64 m + (1 : Int)) ≠ (0 : Int),
      (0 : Int) ≤ Int.tmod (x (Int.toNat (↑k : Int))) (IntKind.wrap IntKind.u64 (IntKind.wrap IntKind.u64 m + (1 : Int))),
      Int.tmod (x (Int.toNat (↑k : Int))) (IntKind.wrap IntKind.u64 (IntKind.wrap IntKind.u64 m + (1 : Int))) ≤ (18446744073709551615 : Int),
      decide (sentH (ifc i s h v i) (ifc i s h v s) (ifc i s h v h) (ifc i s h v (tickH i h v (t (Int.toNat (↑k : Int))) (wt (Int.toNat (↑k : Int))))) (Int.tmod (x (Int.toNat (↑k : Int))) (IntKind.wrap IntKind.u64 (IntKind.wrap IntKind.u64 m + (1 : Int)))) < IntKind.wrap IntKind.i64 (IntKind.wrap IntKind.i64 ((0 : Int) - ifc (ifc i s h v i) (ifc i s h v s) (ifc i s h v h) (ifc i s h v (tickH i h v (t (Int.toNat (↑k : Int))) (wt (Int.toNat (↑k : Int))))) (ifc i s h v s)) * IntKind.wrap IntKind.i64 m)) = false,
      decide (sentH (ifc i s h v i) (ifc i s h v s) (ifc i s h v h) (ifc i s h v (tickH i h v (t (Int.toNat (↑k : Int))) (wt (Int.toNat (↑k : Int))))) (Int.tmod (x (Int.toNat (↑k : Int))) (IntKind.wrap IntKind.u64 (IntKind.wrap IntKind.u64 m + (1 : Int)))) > ifc (ifc i s h v i) (ifc i s h v s) (ifc i s h v h) (ifc i s h v (tickH i h v (t (Int.toNat (↑k : Int))) (wt (Int.toNat (↑k : Int))))) (ifc i s h v h)) = false,
      m = m,
      (0 : Nat) = (0 : Nat),
      (↑len : Int) = (↑len : Int),
      IntKind.wrap IntKind.i64 ((↑k : Int) + (1 : Int)) = (↑(k + (1 : Nat)) : Int),
      len = len,
      ∀ (i : Nat), i < len → t i = t i ∧ x i = x i ∧ wt i = wt i ∧ True,
      ifc (ifc i s h v i) (ifc i s h v s) (ifc i s h v h) (ifc i s h v (tickH i h v (t (Int.toNat (↑k : Int))) (wt (Int.toNat (↑k : Int))))) (ifc i s h v i) = i,
      ifc (ifc i s h v i) (ifc i s h v s) (ifc i s h v h) (ifc i s h v (tickH i h v (t (Int.toNat (↑k : Int))) (wt (Int.toNat (↑k : Int))))) (ifc i s h v s) = s,
      ifc (ifc i s h v i) (ifc i s h v s) (ifc i s h v h) (ifc i s h v (tickH i h v (t (Int.toNat (↑k : Int))) (wt (Int.toNat (↑k : Int))))) (ifc i s h v h) = h,
      sentH (ifc i s h v i) (ifc i s h v s) (ifc i s h v h) (ifc i s h v (tickH i h v (t (Int.toNat (↑k : Int))) (wt (Int.toNat (↑k : Int))))) (Int.tmod (x (Int.toNat (↑k : Int))) (IntKind.wrap IntKind.u64 (IntKind.wrap IntKind.u64 m + (1 : Int)))) = v3]) (by kernel_rfl) (.cons (by (simp [ifc_t, *]; done)) (.cons (by omega) (.cons (by omega) (.cons (by assumption) (.cons (by (simp [ifc_t, *]; done)) (.cons (by (simp [ifc_t, *]; done)) (.cons (by (simp [ifc_t, *]; omega)) (.cons (by (simp [ifc_t, *]; omega)) (.cons (by (simp [ifc_t, *]; done)) (.cons (by (simp [ifc_t, *]; done)) (.cons (by (simp [ifc_t, *]; omega)) (.cons (by (simp [ifc_t, *]; omega)) (.cons (by (simp [ifc_t, *]; done)) (.cons (by (simp [ifc_t, *]; omega)) (.cons (by omega) (.cons (by (simp [ifc_t, *]; done)) (.cons (by (simp [ifc_t, *]; omega)) (.cons (by (simp [ifc_t, *]; done)) (.cons (by (simp [ifc_t, *]; done)) (.cons (by rfl) (.cons (by rfl) (.cons (by rfl) (.cons (by exact w64 (by omega) (by omega)) (.cons (by rfl) (.cons (by (simp [ifc_t, *]; done)) (.cons (by (simp [ifc_t, *]; done)) (.cons (by (simp [ifc_t, *]; done)) (.cons (by (simp [ifc_t, *]; done)) (.cons (by (simp [ifc_t, *]; done)) .nil))))))))))))))))))))))))))))) (Nat.le_of_ble_eq_true (by kernel_rfl))

set_option maxHeartbeats 2000000 in
theorem bounds_none (i s h v m : Int) (len k : Nat) (t x : Nat → Int) (wt : Nat → Bool) (hk : k < len) (hl : len ≤ 200) (bt : 0 ≤ t k ∧ t k ≤ 18446744073709551615) (bx : 0 ≤ x k ∧ x k ≤ 18446744073709551615) (v2 n v3 : Int) (k1 : okB i s h v = true) (e2 : tickH i h v (t k) (wt k) = v2) (k2 : okB i s h v2 = true) (ew : waitV i s h v2 = 0) (m1 : mayB i s h (tickH i h v2 0 true) = true) (m3 : mayB i s h v2 = true) (hm : 0 ≤ m ∧ m ≤ 65535) (wm : IntKind.wrap IntKind.u64 (IntKind.wrap IntKind.u64 m + 1) = m + 1) (en : Int.tmod (x k) (m + 1) = n) (hn : 0 ≤ n ∧ n ≤ m) (e3 : sentH i s h v2 n = v3) (wn : IntKind.wrap IntKind.i64 (IntKind.wrap IntKind.i64 (-s) * IntKind.wrap IntKind.i64 m) = -(s * m)) (b1 : -(s * m) ≤ v3) (b2 : v3 ≤ h) : CodeOk Try.prog 1 (loopOf Try.f4 0) (boundsS m len t x wt k i s h v) .normal (boundsS m len t x wt (k + 1) i s h v3) :=
  code_run G2_ok (orc := ⟨[true, false, false, false, false, false, false], []⟩) (obl := [decide ((↑k : Int) < (↑len : Int)) = true,
      (0 : Int) ≤ (↑k : Int),
      (↑k : Int) < (↑len : Int),
      Int.toNat (↑k : Int) < len,
      (0 : Int) ≤ t (Int.toNat (↑k : Int)),
      t (Int.toNat (↑k : Int)) ≤ (18446744073709551615 : Int),
      (0 : Int) ≤ waitV (ifc i s h v i) (ifc i s h v s) (ifc i s h v h) (ifc i s h v (tickH i h v (t (Int.toNat (↑k : Int))) (wt (Int.toNat (↑k : Int))))),
      waitV (ifc i s h v i) (ifc i s h v s) (ifc i s h v h) (ifc i s h v (tickH i h v (t (Int.toNat (↑k : Int))) (wt (Int.toNat (↑k : Int))))) ≤ (18446744073709551615 : Int),
      (!mayB (ifc (ifc i s h v i) (ifc i s h v s) (ifc i s h v h) (ifc i s h v (tickH i h v (t (Int.toNat (↑k : Int))) (wt (Int.toNat (↑k : Int))))) (ifc i s h v i)) (ifc (ifc i s h v i) (ifc i s h v s) (ifc i s h v h) (ifc i s h v (tickH i h v (t (Int.toNat (↑k : Int))) (wt (Int.toNat (↑k : Int))))) (ifc i s h v s)) (ifc (ifc i s h v i) (ifc i s h v s) (ifc i s h v h) (ifc i s h v (tickH i h v (t (Int.toNat (↑k : Int))) (wt (Int.toNat (↑k : Int))))) (ifc i s h v h)) (ifc (ifc i s h v i) (ifc i s h v s) (ifc i s h v h) (ifc i s h v (tickH i h v (t (Int.toNat (↑k : Int))) (wt (Int.toNat (↑k : Int))))) (tickH (ifc i s h v i) (ifc i s h v h) (ifc i s h v (tickH i h v (t (Int.toNat (↑k : Int))) (wt (Int.toNat (↑k : Int))))) (waitV (ifc i s h v i) (ifc i s h v s) (ifc i s h v h) (ifc i s h v (tickH i h v (t (Int.toNat (↑k : Int))) (wt (Int.toNat (↑k : Int)))))) true))) = false,
      decide (waitV (ifc i s h v i) (ifc i s h v s) (ifc i s h v h) (ifc i s h v (tickH i h v (t (Int.toNat (↑k : Int))) (wt (Int.toNat (↑k : Int))))) > (0 : Int)) = false,
      false = false,
      (!(waitV (ifc i s h v i) (ifc i s h v s) (ifc i s h v h) (ifc i s h v (tickH i h v (t (Int.toNat (↑k : Int))) (wt (Int.toNat (↑k : Int))))) == (0 : Int)) == mayB (ifc i s h v i) (ifc i s h v s) (ifc i s h v h) (ifc i s h v (tickH i h v (t (Int.toNat (↑k : Int))) (wt (Int.toNat (↑k : Int)))))) = false,
      IntKind.wrap IntKind.u64 (IntKind.wrap IntKind.u64 m + (1 : Int)) ≠ (0 : Int),
      (0 : Int) ≤ Int.tmod (x (Int.toNat (↑k : Int))) (IntKind.wrap IntKind.u64 (IntKind.wrap IntKind.u64 m + (1 : Int))),
      Int.tmod (x (Int.toNat (↑k : Int))) (IntKind.wrap IntKind.u64 (IntKind.wrap IntKind.u64 m + (1 : Int))) ≤ (18446744073709551615 : Int),
      decide (sentH (ifc i s h v i) (ifc i s h v s) (ifc i s h v h) (ifc i s h v (tickH i h v (t (Int.toNat (↑k : Int))) (wt (Int.toNat (↑k : Int))))) (Int.tmod (x (Int.toNat (↑k : Int))) (IntKind.wrap IntKind.u64 (IntKind.wrap IntKind.u64 m + (1 : Int)))) < IntKind.wrap IntKind.i64 (IntKind.wrap IntKind.i64 ((0 : Int) - ifc (ifc i s h v i) (ifc i s h v s) (ifc i s h v h) (ifc i s h v (tickH i h v (t (Int.toNat (↑k : Int))) (wt (Int.toNat (↑k : Int))))) (ifc i s h v s)) * IntKind.wrap IntKind.i64 m)) = false,
      decide (sentH (ifc i s h v i) (ifc i s h v s) (ifc i s h v h) (ifc i s h v (tickH i h v (t (Int.toNat (↑k : Int))) (wt (Int.toNat (↑k : Int))))) (Int.tmod (x (Int.toNat (↑k : Int))) (IntKind.wrap IntKind.u64 (IntKind.wrap IntKind.u64 m + (1 : Int)))) > ifc (ifc i s h v i) (ifc i s h v s) (ifc i s h v h) (ifc i s h v (tickH i h v (t (Int.toNat (↑k : Int))) (wt (Int.toNat (↑k : Int))))) (ifc i s h v h)) = false,
      m = m,
      (0 : Nat) = (0 : Nat),
      (↑len : Int) = (↑len : Int),
      IntKind.wrap IntKind.i64 ((↑k : Int) + (1 : Int)) = (↑(k + (1 : Nat)) : Int),
      len = len,
      ∀ (i : Nat), i < len → t i = t i ∧ x i = x i ∧ wt i = wt i ∧ True,
      ifc (ifc i s h v i) (ifc i s h v s) (ifc i s h v h) (ifc i s h v (tickH i h v (t (Int.toNat (↑k : Int))) (wt (Int.toNat (↑k : Int))))) (ifc i s h v i) = i,
      ifc (ifc i s h v i) (ifc i s h v s) (ifc i s h v h) (ifc i s h v (tickH i h v (t (Int.toNat (↑k : Int))) (wt (Int.toNat (↑k : Int))))) (ifc i s h v s) = s,
      ifc (ifc i s h v i) (ifc i s h v s) (ifc i s h v h) (ifc i s h v (tickH i h v (t (Int.toNat (↑k : Int))) (wt (Int.toNat (↑k : Int))))) (ifc i s h v h) = h,
      sentH (ifc i s h v i) (ifc i s h v s) (ifc i s h v h) (ifc i s h v (tickH i h v (t (Int.toNat (↑k : Int))) (wt (Int.toNat (↑k : Int))))) (Int.tmod (x (Int.toNat (↑k : Int))) (IntKind.wrap IntKind.u64 (IntKind.wrap IntKind.u64 m + (1 : Int)))) = v3]) (by kernel_rfl) (.cons (by (simp [ifc_t, *]; done)) (.cons (by omega) (.cons (by omega) (.cons (by assumption) (.cons (by (simp [ifc_t, *]; done)) (.cons (by (simp [ifc_t, *]; done)) (.cons (by (simp [ifc_t, *]; done)) (.cons (by (simp [ifc_t, *]; done)) (.cons (by (simp [ifc_t, *]; done)) (.cons (by (simp [ifc_t, *]; done)) (.cons (by rfl) (.cons (by (simp [ifc_t, *]; done)) (.cons (by omega) (.cons (by (simp [ifc_t, *]; done)) (.cons (by (simp [ifc_t, *]; omega)) (.cons (by (simp [ifc_t, *]; done)) (.cons (by (simp [ifc_t, *]; done)) (.cons (by rfl) (.cons (by rfl) (.cons (by rfl) (.cons (by exact w64 (by omega) (by omega)) (.cons (by rfl) (.cons (by (simp [ifc_t, *]; done)) (.cons (by (simp [ifc_t, *]; done)) (.cons (by (simp [ifc_t, *]; done)) (.cons (by (simp [ifc_t, *]; done)) (.cons (by (simp [ifc_t, *]; done)) .nil))))))))))))))))))))))))))) (Nat.le_of_ble_eq_true (by kernel_rfl))
end Go.Proofs.Ytpldacdgifekmaa
