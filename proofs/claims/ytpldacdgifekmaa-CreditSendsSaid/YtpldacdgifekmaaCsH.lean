/- Runs of Go code, as printed by a program: no condition beyond those that each states. -/
import Derived.Test.YtpldacdgifekmaaCsM
import Derived.Test.YtpldacdgifekmaaChecked
import Derived.KernelRfl
namespace Go.Proofs.Ytpldacdgifekmaa
set_option linter.unusedVariables false
set_option linter.unusedSimpArgs false
set_option maxRecDepth 100000
open Go.RowKit E
set_option maxHeartbeats 2000000 in
theorem sends_end (i s h v m : Int) (len : Nat) (t x : Nat → Int) (wt : Nat → Bool) (co er : Nat → Int) : CodeOk Try.prog 1 (loopOf Try.f5 0) (sendsS m len t x wt len i s h v co er) (.exit 0) (sendsM m len i s h v co er) :=
  code_run G2_ok (orc := ⟨[false], []⟩) (obl := [decide ((↑len : Int) < (↑len : Int)) = false,
      m = m,
      (0 : Nat) = (0 : Nat),
      i = i,
      s = s,
      h = h,
      v = v,
      len = len,
      ∀ (i : Nat), i < len → co i = co i ∧ True,
      len = len,
      ∀ (i : Nat), i < len → er i = er i ∧ True]) (by kernel_rfl) (.cons (by exact decide_eq_false (by omega)) (.cons (by rfl) (.cons (by rfl) (.cons (by rfl) (.cons (by rfl) (.cons (by rfl) (.cons (by rfl) (.cons (by rfl) (.cons (by (simp; done)) (.cons (by rfl) (.cons (by (simp; done)) .nil))))))))))) (Nat.le_of_ble_eq_true (by kernel_rfl))

set_option maxHeartbeats 2000000 in
theorem sends_yes (i s h v m : Int) (len k : Nat) (t x : Nat → Int) (wt : Nat → Bool) (co er : Nat → Int) (hk : k < len) (hl : len ≤ 80) (bt : 0 ≤ t k ∧ t k ≤ 18446744073709551615) (bx : 0 ≤ x k ∧ x k ≤ 18446744073709551615) (q n v2 v3 : Int) (k1 : okB i s h v = true) (eq : Int.tmod (t k) 1073741824 = q) (hq : 0 ≤ q ∧ q < 1073741824) (e2 : tickH i h v q (wt k) = v2) (k2 : okB i s h v2 = true) (hm : 0 ≤ m ∧ m ≤ 65535) (wm : IntKind.wrap IntKind.u64 (IntKind.wrap IntKind.u64 m + 1) = m + 1) (en : Int.tmod (x k) (m + 1) = n) (hn : 0 ≤ n ∧ n ≤ m) (e3 : sentH i s h v2 n = v3) (eb : sentB i s h v2 n = true) (ec : IntKind.wrap IntKind.i64 (s * IntKind.wrap IntKind.i64 n) = co k) (ee : IntKind.wrap IntKind.i64 (i * IntKind.wrap IntKind.i64 q) = er k) : CodeOk Try.prog 1 (loopOf Try.f5 0) (sendsS m len t x wt k i s h v co er) .normal (sendsS m len t x wt (k + 1) i s h v3 co er) :=
  code_run G2_ok (orc := ⟨[true, true], []⟩) (obl := [decide ((↑k : Int) < (↑len : Int)) = true,
      (0 : Int) ≤ (↑k : Int),
      (↑k : Int) < (↑len : Int),
      Int.toNat (↑k : Int) < len,
      (1073741824 : Int) ≠ (0 : Int),
      (0 : Int) ≤ Int.tmod (t (Int.toNat (↑k : Int))) (1073741824 : Int),
      Int.tmod (t (Int.toNat (↑k : Int))) (1073741824 : Int) ≤ (18446744073709551615 : Int),
      IntKind.wrap IntKind.u64 (IntKind.wrap IntKind.u64 m + (1 : Int)) ≠ (0 : Int),
      (0 : Int) ≤ Int.tmod (x (Int.toNat (↑k : Int))) (IntKind.wrap IntKind.u64 (IntKind.wrap IntKind.u64 m + (1 : Int))),
      Int.tmod (x (Int.toNat (↑k : Int))) (IntKind.wrap IntKind.u64 (IntKind.wrap IntKind.u64 m + (1 : Int))) ≤ (18446744073709551615 : Int),
      sentB (ifc i s h v i) (ifc i s h v s) (ifc i s h v h) (ifc i s h v (tickH i h v (Int.tmod (t (Int.toNat (↑k : Int))) (1073741824 : Int)) (wt (Int.toNat (↑k : Int))))) (Int.tmod (x (Int.toNat (↑k : Int))) (IntKind.wrap IntKind.u64 (IntKind.wrap IntKind.u64 m + (1 : Int)))) = true,
      k + (1 : Nat) ≤ (4611686018427387904 : Nat),
      (k + (1 : Nat)) * (8 : Nat) ≤ (140737488355328 : Nat),
      k + (1 : Nat) ≤ (4611686018427387904 : Nat),
      (k + (1 : Nat)) * (8 : Nat) ≤ (140737488355328 : Nat),
      m = m,
      (0 : Nat) = (0 : Nat),
      (↑len : Int) = (↑len : Int),
      IntKind.wrap IntKind.i64 ((↑k : Int) + (1 : Int)) = (↑(k + (1 : Nat)) : Int),
      len = len,
      ∀ (i : Nat), i < len → t i = t i ∧ x i = x i ∧ wt i = wt i ∧ True,
      ifc (ifc i s h v i) (ifc i s h v s) (ifc i s h v h) (ifc i s h v (tickH i h v (Int.tmod (t (Int.toNat (↑k : Int))) (1073741824 : Int)) (wt (Int.toNat (↑k : Int))))) (ifc i s h v i) = i,
      ifc (ifc i s h v i) (ifc i s h v s) (ifc i s h v h) (ifc i s h v (tickH i h v (Int.tmod (t (Int.toNat (↑k : Int))) (1073741824 : Int)) (wt (Int.toNat (↑k : Int))))) (ifc i s h v s) = s,
      ifc (ifc i s h v i) (ifc i s h v s) (ifc i s h v h) (ifc i s h v (tickH i h v (Int.tmod (t (Int.toNat (↑k : Int))) (1073741824 : Int)) (wt (Int.toNat (↑k : Int))))) (ifc i s h v h) = h,
      sentH (ifc i s h v i) (ifc i s h v s) (ifc i s h v h) (ifc i s h v (tickH i h v (Int.tmod (t (Int.toNat (↑k : Int))) (1073741824 : Int)) (wt (Int.toNat (↑k : Int))))) (Int.tmod (x (Int.toNat (↑k : Int))) (IntKind.wrap IntKind.u64 (IntKind.wrap IntKind.u64 m + (1 : Int)))) = v3,
      k + (1 : Nat) = k + (1 : Nat),
      ∀ (i_1 : Nat), i_1 < k + (1 : Nat) → AllT (leAts [((2 : Nat), some (2 : Nat)), ((3 : Nat), some (8 : Nat)), ((4 : Nat), some (10 : Nat)), ((0 : Nat), some (0 : Nat))] (5 : Nat) (if i_1 = k then [At.val (Value.int IntKind.i64 (IntKind.wrap IntKind.i64 (ifc (ifc i s h v i) (ifc i s h v s) (ifc i s h v h) (ifc i s h v (tickH i h v (Int.tmod (t (Int.toNat (↑k : Int))) (1073741824 : Int)) (wt (Int.toNat (↑k : Int))))) (ifc i s h v s) * IntKind.wrap IntKind.i64 (Int.tmod (x (Int.toNat (↑k : Int))) (IntKind.wrap IntKind.u64 (IntKind.wrap IntKind.u64 m + (1 : Int)))))))] else oneG co i_1) (oneG co i_1)),
      k + (1 : Nat) = k + (1 : Nat),
      ∀ (i_1 : Nat), i_1 < k + (1 : Nat) → AllT (leAts [((2 : Nat), some (2 : Nat)), ((3 : Nat), some (8 : Nat)), ((4 : Nat), some (10 : Nat)), ((0 : Nat), some (0 : Nat))] (5 : Nat) (if i_1 = k then [At.val (Value.int IntKind.i64 (IntKind.wrap IntKind.i64 (ifc (ifc i s h v i) (ifc i s h v s) (ifc i s h v h) (ifc i s h v (tickH i h v (Int.tmod (t (Int.toNat (↑k : Int))) (1073741824 : Int)) (wt (Int.toNat (↑k : Int))))) (ifc i s h v i) * IntKind.wrap IntKind.i64 (Int.tmod (t (Int.toNat (↑k : Int))) (1073741824 : Int)))))] else oneG er i_1) (oneG er i_1))]) (by kernel_rfl) (.cons (by (simp [ifc_t, *]; done)) (.cons (by omega) (.cons (by omega) (.cons (by assumption) (.cons (by trivial) (.cons (by (simp [ifc_t, *]; done)) (.cons (by (simp [ifc_t, *]; omega)) (.cons (by omega) (.cons (by (simp [ifc_t, *]; done)) (.cons (by (simp [ifc_t, *]; omega)) (.cons (by (simp [ifc_t, *]; done)) (.cons (by omega) (.cons (by omega) (.cons (by omega) (.cons (by omega) (.cons (by rfl) (.cons (by rfl) (.cons (by rfl) (.cons (by exact w64 (by omega) (by omega)) (.cons (by rfl) (.cons (by (simp [ifc_t, *]; done)) (.cons (by (simp [ifc_t, *]; done)) (.cons (by (simp [ifc_t, *]; done)) (.cons (by (simp [ifc_t, *]; done)) (.cons (by (simp [ifc_t, *]; done)) (.cons (by rfl) (.cons (by exact le_if (fun i hi hne => by (simp [leAts, leAt, AllT, oneG]; done)) (by (simp [leAts, leAt, AllT, oneG, ifc_t, *]; done))) (.cons (by rfl) (.cons (by exact le_if (fun i hi hne => by (simp [leAts, leAt, AllT, oneG]; done)) (by (simp [leAts, leAt, AllT, oneG, ifc_t, *]; done))) .nil))))))))))))))))))))))))))))) (Nat.le_of_ble_eq_true (by kernel_rfl))

set_option maxHeartbeats 2000000 in
theorem sends_no (i s h v m : Int) (len k : Nat) (t x : Nat → Int) (wt : Nat → Bool) (co er : Nat → Int) (hk : k < len) (hl : len ≤ 80) (bt : 0 ≤ t k ∧ t k ≤ 18446744073709551615) (bx : 0 ≤ x k ∧ x k ≤ 18446744073709551615) (q n v2 v3 : Int) (k1 : okB i s h v = true) (eq : Int.tmod (t k) 1073741824 = q) (hq : 0 ≤ q ∧ q < 1073741824) (e2 : tickH i h v q (wt k) = v2) (k2 : okB i s h v2 = true) (hm : 0 ≤ m ∧ m ≤ 65535) (wm : IntKind.wrap IntKind.u64 (IntKind.wrap IntKind.u64 m + 1) = m + 1) (en : Int.tmod (x k) (m + 1) = n) (hn : 0 ≤ n ∧ n ≤ m) (e3 : sentH i s h v2 n = v3) (eb : sentB i s h v2 n = false) (ec : 0 = co k) (ee : IntKind.wrap IntKind.i64 (i * IntKind.wrap IntKind.i64 q) = er k) : CodeOk Try.prog 1 (loopOf Try.f5 0) (sendsS m len t x wt k i s h v co er) .normal (sendsS m len t x wt (k + 1) i s h v3 co er) :=
  code_run G2_ok (orc := ⟨[true, false], []⟩) (obl := [decide ((↑k : Int) < (↑len : Int)) = true,
      (0 : Int) ≤ (↑k : Int),
      (↑k : Int) < (↑len : Int),
      Int.toNat (↑k : Int) < len,
      (1073741824 : Int) ≠ (0 : Int),
      (0 : Int) ≤ Int.tmod (t (Int.toNat (↑k : Int))) (1073741824 : Int),
      Int.tmod (t (Int.toNat (↑k : Int))) (1073741824 : Int) ≤ (18446744073709551615 : Int),
      IntKind.wrap IntKind.u64 (IntKind.wrap IntKind.u64 m + (1 : Int)) ≠ (0 : Int),
      (0 : Int) ≤ Int.tmod (x (Int.toNat (↑k : Int))) (IntKind.wrap IntKind.u64 (IntKind.wrap IntKind.u64 m + (1 : Int))),
      Int.tmod (x (Int.toNat (↑k : Int))) (IntKind.wrap IntKind.u64 (IntKind.wrap IntKind.u64 m + (1 : Int))) ≤ (18446744073709551615 : Int),
      sentB (ifc i s h v i) (ifc i s h v s) (ifc i s h v h) (ifc i s h v (tickH i h v (Int.tmod (t (Int.toNat (↑k : Int))) (1073741824 : Int)) (wt (Int.toNat (↑k : Int))))) (Int.tmod (x (Int.toNat (↑k : Int))) (IntKind.wrap IntKind.u64 (IntKind.wrap IntKind.u64 m + (1 : Int)))) = false,
      k + (1 : Nat) ≤ (4611686018427387904 : Nat),
      (k + (1 : Nat)) * (8 : Nat) ≤ (140737488355328 : Nat),
      k + (1 : Nat) ≤ (4611686018427387904 : Nat),
      (k + (1 : Nat)) * (8 : Nat) ≤ (140737488355328 : Nat),
      m = m,
      (0 : Nat) = (0 : Nat),
      (↑len : Int) = (↑len : Int),
      IntKind.wrap IntKind.i64 ((↑k : Int) + (1 : Int)) = (↑(k + (1 : Nat)) : Int),
      len = len,
      ∀ (i : Nat), i < len → t i = t i ∧ x i = x i ∧ wt i = wt i ∧ True,
      ifc (ifc i s h v i) (ifc i s h v s) (ifc i s h v h) (ifc i s h v (tickH i h v (Int.tmod (t (Int.toNat (↑k : Int))) (1073741824 : Int)) (wt (Int.toNat (↑k : Int))))) (ifc i s h v i) = i,
      ifc (ifc i s h v i) (ifc i s h v s) (ifc i s h v h) (ifc i s h v (tickH i h v (Int.tmod (t (Int.toNat (↑k : Int))) (1073741824 : Int)) (wt (Int.toNat (↑k : Int))))) (ifc i s h v s) = s,
      ifc (ifc i s h v i) (ifc i s h v s) (ifc i s h v h) (ifc i s h v (tickH i h v (Int.tmod (t (Int.toNat (↑k : Int))) (1073741824 : Int)) (wt (Int.toNat (↑k : Int))))) (ifc i s h v h) = h,
      sentH (ifc i s h v i) (ifc i s h v s) (ifc i s h v h) (ifc i s h v (tickH i h v (Int.tmod (t (Int.toNat (↑k : Int))) (1073741824 : Int)) (wt (Int.toNat (↑k : Int))))) (Int.tmod (x (Int.toNat (↑k : Int))) (IntKind.wrap IntKind.u64 (IntKind.wrap IntKind.u64 m + (1 : Int)))) = v3,
      k + (1 : Nat) = k + (1 : Nat),
      ∀ (i : Nat), i < k + (1 : Nat) → AllT (leAts [((2 : Nat), some (2 : Nat)), ((3 : Nat), some (8 : Nat)), ((4 : Nat), some (10 : Nat)), ((0 : Nat), some (0 : Nat))] (5 : Nat) (if i = k then [At.val (Value.int IntKind.i64 (0 : Int))] else oneG co i) (oneG co i)),
      k + (1 : Nat) = k + (1 : Nat),
      ∀ (i_1 : Nat), i_1 < k + (1 : Nat) → AllT (leAts [((2 : Nat), some (2 : Nat)), ((3 : Nat), some (8 : Nat)), ((4 : Nat), some (10 : Nat)), ((0 : Nat), some (0 : Nat))] (5 : Nat) (if i_1 = k then [At.val (Value.int IntKind.i64 (IntKind.wrap IntKind.i64 (ifc (ifc i s h v i) (ifc i s h v s) (ifc i s h v h) (ifc i s h v (tickH i h v (Int.tmod (t (Int.toNat (↑k : Int))) (1073741824 : Int)) (wt (Int.toNat (↑k : Int))))) (ifc i s h v i) * IntKind.wrap IntKind.i64 (Int.tmod (t (Int.toNat (↑k : Int))) (1073741824 : Int)))))] else oneG er i_1) (oneG er i_1))]) (by kernel_rfl) (.cons (by (simp [ifc_t, *]; done)) (.cons (by omega) (.cons (by omega) (.cons (by assumption) (.cons (by trivial) (.cons (by (simp [ifc_t, *]; omega)) (.cons (by (simp [ifc_t, *]; omega)) (.cons (by omega) (.cons (by (simp [ifc_t, *]; omega)) (.cons (by (simp [ifc_t, *]; omega)) (.cons (by (simp [ifc_t, *]; done)) (.cons (by omega) (.cons (by omega) (.cons (by omega) (.cons (by omega) (.cons (by rfl) (.cons (by rfl) (.cons (by rfl) (.cons (by exact w64 (by omega) (by omega)) (.cons (by rfl) (.cons (by (simp [ifc_t, *]; done)) (.cons (by (simp [ifc_t, *]; done)) (.cons (by (simp [ifc_t, *]; done)) (.cons (by (simp [ifc_t, *]; done)) (.cons (by (simp [ifc_t, *]; done)) (.cons (by rfl) (.cons (by exact le_if (fun i hi hne => by (simp [leAts, leAt, AllT, oneG]; done)) (by (simp [leAts, leAt, AllT, oneG, ifc_t, *]; done))) (.cons (by rfl) (.cons (by exact le_if (fun i hi hne => by (simp [leAts, leAt, AllT, oneG]; done)) (by (simp [leAts, leAt, AllT, oneG, ifc_t, *]; done))) .nil))))))))))))))))))))))))))))) (Nat.le_of_ble_eq_true (by kernel_rfl))

set_option maxHeartbeats 2000000 in
theorem inner_end (i s h v m : Int) (n j : Nat) (co er : Nat → Int) (sum may : Int) : CodeOk Try.prog 1 (loopOf Try.f5 2) (sendsI m n i s h v co er j n sum may) (.exit 4) (sendsO m n i s h v co er j) :=
  code_run G2_ok (orc := ⟨[false], []⟩) (obl := [decide ((↑n : Int) < (↑n : Int)) = false,
      m = m,
      (0 : Nat) = (0 : Nat),
      (↑n : Int) = (↑n : Int),
      (↑j : Int) = (↑j : Int),
      i = i,
      s = s,
      h = h,
      v = v,
      n = n,
      ∀ (i : Nat), i < n → co i = co i ∧ True,
      n = n,
      ∀ (i : Nat), i < n → er i = er i ∧ True]) (by kernel_rfl) (.cons (by exact decide_eq_false (by omega)) (.cons (by rfl) (.cons (by rfl) (.cons (by rfl) (.cons (by rfl) (.cons (by rfl) (.cons (by rfl) (.cons (by rfl) (.cons (by rfl) (.cons (by rfl) (.cons (by (simp; done)) (.cons (by rfl) (.cons (by (simp; done)) .nil))))))))))))) (Nat.le_of_ble_eq_true (by kernel_rfl))

set_option maxHeartbeats 2000000 in
theorem inner_first (i s h v m : Int) (n j : Nat) (co er : Nat → Int) (may : Int) (hj : j < n) (hn : n ≤ 80) (hc : 0 ≤ co j ∧ co j ≤ 68718428160) (hs : co j ≤ may) (hw : IntKind.wrap IntKind.i64 (co j) = co j) : CodeOk Try.prog 1 (loopOf Try.f5 2) (sendsI m n i s h v co er j j 0 may) .normal (sendsI m n i s h v co er j (j + 1) (co j) may) :=
  code_run G2_ok (orc := ⟨[true, false, false], []⟩) (obl := [decide ((↑j : Int) < (↑n : Int)) = true,
      (0 : Int) ≤ (↑j : Int),
      (↑j : Int) < (↑n : Int),
      Int.toNat (↑j : Int) < n,
      decide ((↑j : Int) > (↑j : Int)) = false,
      decide (IntKind.wrap IntKind.i64 ((0 : Int) + co (Int.toNat (↑j : Int))) > may) = false,
      m = m,
      (0 : Nat) = (0 : Nat),
      (↑j : Int) = (↑j : Int),
      IntKind.wrap IntKind.i64 ((0 : Int) + co (Int.toNat (↑j : Int))) = co j,
      may = may,
      IntKind.wrap IntKind.i64 ((↑j : Int) + (1 : Int)) = (↑(j + (1 : Nat)) : Int),
      (↑n : Int) = (↑n : Int),
      (↑j : Int) = (↑j : Int),
      i = i,
      s = s,
      h = h,
      v = v,
      n = n,
      ∀ (i : Nat), i < n → co i = co i ∧ True,
      n = n,
      ∀ (i : Nat), i < n → er i = er i ∧ True]) (by kernel_rfl) (.cons (by exact decide_eq_true (by omega)) (.cons (by omega) (.cons (by omega) (.cons (by assumption) (.cons (by exact decide_eq_false (by omega)) (.cons (by (simp [*]; done)) (.cons (by rfl) (.cons (by rfl) (.cons (by rfl) (.cons (by (simp [*]; done)) (.cons (by rfl) (.cons (by exact w64 (by omega) (by omega)) (.cons (by rfl) (.cons (by rfl) (.cons (by rfl) (.cons (by rfl) (.cons (by rfl) (.cons (by rfl) (.cons (by rfl) (.cons (by (simp; done)) (.cons (by rfl) (.cons (by (simp; done)) .nil)))))))))))))))))))))) (Nat.le_of_ble_eq_true (by kernel_rfl))

set_option maxHeartbeats 2000000 in
theorem inner_next (i s h v m : Int) (n j k : Nat) (co er : Nat → Int) (sum may sum2 may2 : Int) (hj : j < k) (hk : k < n) (hn : n ≤ 80) (h1 : IntKind.wrap IntKind.i64 (sum + co k) = sum2) (h2 : IntKind.wrap IntKind.i64 (may + er k) = may2) (hs : sum2 ≤ may2) : CodeOk Try.prog 1 (loopOf Try.f5 2) (sendsI m n i s h v co er j k sum may) .normal (sendsI m n i s h v co er j (k + 1) sum2 may2) :=
  code_run G2_ok (orc := ⟨[true, true, false], []⟩) (obl := [decide ((↑k : Int) < (↑n : Int)) = true,
      (0 : Int) ≤ (↑k : Int),
      (↑k : Int) < (↑n : Int),
      Int.toNat (↑k : Int) < n,
      decide ((↑k : Int) > (↑j : Int)) = true,
      (0 : Int) ≤ (↑k : Int),
      (↑k : Int) < (↑n : Int),
      Int.toNat (↑k : Int) < n,
      decide (IntKind.wrap IntKind.i64 (sum + co (Int.toNat (↑k : Int))) > IntKind.wrap IntKind.i64 (may + er (Int.toNat (↑k : Int)))) = false,
      m = m,
      (0 : Nat) = (0 : Nat),
      (↑j : Int) = (↑j : Int),
      IntKind.wrap IntKind.i64 (sum + co (Int.toNat (↑k : Int))) = sum2,
      IntKind.wrap IntKind.i64 (may + er (Int.toNat (↑k : Int))) = may2,
      IntKind.wrap IntKind.i64 ((↑k : Int) + (1 : Int)) = (↑(k + (1 : Nat)) : Int),
      (↑n : Int) = (↑n : Int),
      (↑j : Int) = (↑j : Int),
      i = i,
      s = s,
      h = h,
      v = v,
      n = n,
      ∀ (i : Nat), i < n → co i = co i ∧ True,
      n = n,
      ∀ (i : Nat), i < n → er i = er i ∧ True]) (by kernel_rfl) (.cons (by exact decide_eq_true (by omega)) (.cons (by omega) (.cons (by omega) (.cons (by assumption) (.cons (by exact decide_eq_true (by omega)) (.cons (by omega) (.cons (by omega) (.cons (by assumption) (.cons (by (simp [*]; done)) (.cons (by rfl) (.cons (by rfl) (.cons (by rfl) (.cons (by assumption) (.cons (by assumption) (.cons (by exact w64 (by omega) (by omega)) (.cons (by rfl) (.cons (by rfl) (.cons (by rfl) (.cons (by rfl) (.cons (by rfl) (.cons (by rfl) (.cons (by rfl) (.cons (by (simp; done)) (.cons (by rfl) (.cons (by (simp; done)) .nil))))))))))))))))))))))))) (Nat.le_of_ble_eq_true (by kernel_rfl))

set_option maxHeartbeats 2000000 in
theorem outer_end (i s h v m : Int) (n : Nat) (co er : Nat → Int) : CodeOk Try.prog 1 (loopOf Try.f5 1) (sendsO m n i s h v co er n) (.exit 2) (sendsE) :=
  code_run G2_ok (orc := ⟨[false], []⟩) (obl := [decide ((↑n : Int) < (↑n : Int)) = false]) (by kernel_rfl) (.cons (by exact decide_eq_false (by omega)) .nil) (Nat.le_of_ble_eq_true (by kernel_rfl))
end Go.Proofs.Ytpldacdgifekmaa
