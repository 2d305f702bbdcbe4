/- Runs of Go code, as printed by a program: no condition beyond those that each states. -/
import Derived.Test.YtpldacdgifekmaaCsI
import Derived.Test.YtpldacdgifekmaaChecked
import Derived.KernelRfl
namespace Go.Proofs.Ytpldacdgifekmaa
set_option linter.unusedVariables false
set_option linter.unusedSimpArgs false
set_option maxRecDepth 100000
open Go.RowKit E
set_option maxHeartbeats 2000000 in
theorem outer_round (i s h v m : Int) (n j : Nat) (co er : Nat → Int) (hj : j < n) (hn : n ≤ 80) (wm : IntKind.wrap IntKind.i64 (h + IntKind.wrap IntKind.i64 (s * IntKind.wrap IntKind.i64 m)) = h + s * m) (hl : CodeOk Try.prog 1 (.loop (loopOf Try.f5 2)) (sendsI m n i s h v co er j j 0 (h + s * m)) (.exit 4) (sendsO m n i s h v co er j)) : CodeOk Try.prog 1 (loopOf Try.f5 1) (sendsO m n i s h v co er j) .normal (sendsO m n i s h v co er (j + 1)) :=
  code_run G2_ok (orc := ⟨[true], [⟨sendsI m n i s h v co er j j 0 (h + s * m), .exit 4, sendsO m n i s h v co er j⟩]⟩) (obl := [decide ((↑j : Int) < (↑n : Int)) = true,
      m = m,
      (0 : Nat) = (0 : Nat),
      (↑j : Int) = (↑j : Int),
      (0 : Int) = (0 : Int),
      IntKind.wrap IntKind.i64 (h + IntKind.wrap IntKind.i64 (s * IntKind.wrap IntKind.i64 m)) = h + s * m,
      (↑j : Int) = (↑j : Int),
      (↑n : Int) = (↑n : Int),
      (↑j : Int) = (↑j : Int),
      i = i,
      s = s,
      h = h,
      v = v,
      n = n,
      ∀ (i : Nat), i < n → co i = co i ∧ True,
      n = n,
      ∀ (i : Nat), i < n → er i = er i ∧ True,
      (1 : Nat) ≤ (4 : Nat),
      CodeOk Try.prog (1 : Nat) (Code.loop (loopOf Try.f5 (2 : Nat))) (sendsI m n i s h v co er j j (0 : Int) (h + s * m)) (Ex.exit (4 : Nat)) (sendsO m n i s h v co er j),
      m = m,
      (0 : Nat) = (0 : Nat),
      (↑n : Int) = (↑n : Int),
      IntKind.wrap IntKind.i64 ((↑j : Int) + (1 : Int)) = (↑(j + (1 : Nat)) : Int),
      i = i,
      s = s,
      h = h,
      v = v,
      n = n,
      ∀ (i : Nat), i < n → co i = co i ∧ True,
      n = n,
      ∀ (i : Nat), i < n → er i = er i ∧ True]) (by kernel_rfl) (.cons (by exact decide_eq_true (by omega)) (.cons (by rfl) (.cons (by rfl) (.cons (by rfl) (.cons (by rfl) (.cons (by assumption) (.cons (by rfl) (.cons (by rfl) (.cons (by rfl) (.cons (by rfl) (.cons (by rfl) (.cons (by rfl) (.cons (by rfl) (.cons (by rfl) (.cons (by (simp; done)) (.cons (by rfl) (.cons (by (simp; done)) (.cons (by trivial) (.cons (by assumption) (.cons (by rfl) (.cons (by rfl) (.cons (by rfl) (.cons (by exact w64 (by omega) (by omega)) (.cons (by rfl) (.cons (by rfl) (.cons (by rfl) (.cons (by rfl) (.cons (by rfl) (.cons (by (simp; done)) (.cons (by rfl) (.cons (by (simp; done)) .nil))))))))))))))))))))))))))))))) (Nat.le_of_ble_eq_true (by kernel_rfl))

set_option maxHeartbeats 2000000 in
theorem sends_law (a b c m : Int) (ha : 0 ≤ a ∧ a ≤ 65535) (hb : 0 ≤ b ∧ b ≤ 65535) (hc : 0 ≤ c ∧ c ≤ 65535) (hm : 0 ≤ m ∧ m ≤ 65535) (len : Nat) (t x : Nat → Int) (wt : Nat → Bool) (hl : len ≤ 80) (bt : ∀ k, k < len → 0 ≤ t k ∧ t k ≤ 18446744073709551615) (bx : ∀ k, k < len → 0 ≤ x k ∧ x k ≤ 18446744073709551615) (k0 : okB (a + 1) (b + 1) (c + 1) 0 = true) (k1 : chkC (a + 1) (b + 1) (c + 1) 0 = 0) (wa : IntKind.wrap IntKind.i64 (IntKind.wrap IntKind.i64 a + 1) = a + 1) (wb : IntKind.wrap IntKind.i64 (IntKind.wrap IntKind.i64 b + 1) = b + 1) (wc : IntKind.wrap IntKind.i64 (IntKind.wrap IntKind.i64 c + 1) = c + 1) (co er : Nat → Int) (v : Int) (l1 : CodeOk Try.prog 1 (.loop (loopOf Try.f5 0)) (sendsS m len t x wt 0 (a + 1) (b + 1) (c + 1) 0 co er) (.exit 0) (sendsM m len (a + 1) (b + 1) (c + 1) v co er)) (l2 : CodeOk Try.prog 1 (.loop (loopOf Try.f5 1)) (sendsO m len (a + 1) (b + 1) (c + 1) v co er 0) (.exit 2) sendsE) : LawOk Try.prog 5 ([.nv (.agg [.val (.int .u16 a), .val (.int .u16 b), .val (.int .u16 c)]), .nv (.one (.val (.int .u16 m))), .nv (.one (.own 0))]) ([.ro 3 len (actsG t x wt)]) (bA true) :=
  law_run G2_ok Try.func5 (orc := ⟨[false, false], [⟨sendsS m len t x wt 0 (a + 1) (b + 1) (c + 1) 0 co er, .exit 0, sendsM m len (a + 1) (b + 1) (c + 1) v co er⟩, ⟨sendsO m len (a + 1) (b + 1) (c + 1) v co er 0, .exit 2, sendsE⟩]⟩) (obl := [(0 : Int) ≤ (0 : Int),
      (0 : Int) < (↑(3 : Nat) : Int),
      (0 : Int) ≤ (1 : Int),
      (1 : Int) < (↑(3 : Nat) : Int),
      (0 : Int) ≤ (2 : Int),
      (2 : Int) < (↑(3 : Nat) : Int),
      (chkC (IntKind.wrap IntKind.i64 (IntKind.wrap IntKind.i64 a + (1 : Int))) (IntKind.wrap IntKind.i64 (IntKind.wrap IntKind.i64 b + (1 : Int))) (IntKind.wrap IntKind.i64 (IntKind.wrap IntKind.i64 c + (1 : Int))) (0 : Int) != (0 : Int)) = false,
      decide ((↑len : Int) > (80 : Int)) = false,
      m = m,
      (0 : Nat) = (0 : Nat),
      (↑len : Int) = (↑len : Int),
      (0 : Int) = (↑(0 : Nat) : Int),
      len = len,
      ∀ (i : Nat), i < len → t i = t i ∧ x i = x i ∧ wt i = wt i ∧ True,
      ifc (IntKind.wrap IntKind.i64 (IntKind.wrap IntKind.i64 a + (1 : Int))) (IntKind.wrap IntKind.i64 (IntKind.wrap IntKind.i64 b + (1 : Int))) (IntKind.wrap IntKind.i64 (IntKind.wrap IntKind.i64 c + (1 : Int))) (0 : Int) (IntKind.wrap IntKind.i64 (IntKind.wrap IntKind.i64 a + (1 : Int))) = a + (1 : Int),
      ifc (IntKind.wrap IntKind.i64 (IntKind.wrap IntKind.i64 a + (1 : Int))) (IntKind.wrap IntKind.i64 (IntKind.wrap IntKind.i64 b + (1 : Int))) (IntKind.wrap IntKind.i64 (IntKind.wrap IntKind.i64 c + (1 : Int))) (0 : Int) (IntKind.wrap IntKind.i64 (IntKind.wrap IntKind.i64 b + (1 : Int))) = b + (1 : Int),
      ifc (IntKind.wrap IntKind.i64 (IntKind.wrap IntKind.i64 a + (1 : Int))) (IntKind.wrap IntKind.i64 (IntKind.wrap IntKind.i64 b + (1 : Int))) (IntKind.wrap IntKind.i64 (IntKind.wrap IntKind.i64 c + (1 : Int))) (0 : Int) (IntKind.wrap IntKind.i64 (IntKind.wrap IntKind.i64 c + (1 : Int))) = c + (1 : Int),
      (0 : Int) = (0 : Int),
      (0 : Nat) = (0 : Nat),
      (0 : Nat) = (0 : Nat),
      (1 : Nat) ≤ (5 : Nat),
      CodeOk Try.prog (1 : Nat) (Code.loop (loopOf Try.f5 (0 : Nat))) (sendsS m len t x wt (0 : Nat) (a + (1 : Int)) (b + (1 : Int)) (c + (1 : Int)) (0 : Int) co er) (Ex.exit (0 : Nat)) (sendsM m len (a + (1 : Int)) (b + (1 : Int)) (c + (1 : Int)) v co er),
      m = m,
      (0 : Nat) = (0 : Nat),
      (↑len : Int) = (↑len : Int),
      (0 : Int) = (↑(0 : Nat) : Int),
      a + (1 : Int) = a + (1 : Int),
      b + (1 : Int) = b + (1 : Int),
      c + (1 : Int) = c + (1 : Int),
      v = v,
      len = len,
      ∀ (i : Nat), i < len → co i = co i ∧ True,
      len = len,
      ∀ (i : Nat), i < len → er i = er i ∧ True,
      (1 : Nat) ≤ (4 : Nat),
      CodeOk Try.prog (1 : Nat) (Code.loop (loopOf Try.f5 (1 : Nat))) (sendsO m len (a + (1 : Int)) (b + (1 : Int)) (c + (1 : Int)) v co er (0 : Nat)) (Ex.exit (2 : Nat)) sendsE,
      true = true]) (by kernel_rfl) (.cons (by trivial) (.cons (by trivial) (.cons (by trivial) (.cons (by trivial) (.cons (by trivial) (.cons (by trivial) (.cons (by (simp [ifc_t, *]; done)) (.cons (by exact decide_eq_false (by omega)) (.cons (by rfl) (.cons (by rfl) (.cons (by rfl) (.cons (by rfl) (.cons (by rfl) (.cons (by (simp [ifc_t, *]; done)) (.cons (by (simp [ifc_t, *]; done)) (.cons (by (simp [ifc_t, *]; done)) (.cons (by (simp [ifc_t, *]; done)) (.cons (by rfl) (.cons (by rfl) (.cons (by rfl) (.cons (by trivial) (.cons (by assumption) (.cons (by rfl) (.cons (by rfl) (.cons (by rfl) (.cons (by rfl) (.cons (by rfl) (.cons (by rfl) (.cons (by rfl) (.cons (by rfl) (.cons (by rfl) (.cons (by (simp [ifc_t, *]; done)) (.cons (by rfl) (.cons (by (simp [ifc_t, *]; done)) (.cons (by trivial) (.cons (by assumption) (.cons (by rfl) .nil)))))))))))))))))))))))))))))))))))))

set_option maxHeartbeats 2000000 in
theorem sends_long (a b c m : Int) (len : Nat) (g : Nat → List At) (hl : 80 < len) (k0 : okB (a + 1) (b + 1) (c + 1) 0 = true) (k1 : chkC (a + 1) (b + 1) (c + 1) 0 = 0) (wa : IntKind.wrap IntKind.i64 (IntKind.wrap IntKind.i64 a + 1) = a + 1) (wb : IntKind.wrap IntKind.i64 (IntKind.wrap IntKind.i64 b + 1) = b + 1) (wc : IntKind.wrap IntKind.i64 (IntKind.wrap IntKind.i64 c + 1) = c + 1) : LawOk Try.prog 5 ([.nv (.agg [.val (.int .u16 a), .val (.int .u16 b), .val (.int .u16 c)]), .nv (.one (.val (.int .u16 m))), .nv (.one (.own 0))]) ([.ro 3 len g]) (bA true) :=
  law_run G2_ok Try.func5 (orc := ⟨[false, true, true], []⟩) (obl := [(0 : Int) ≤ (0 : Int),
      (0 : Int) < (↑(3 : Nat) : Int),
      (0 : Int) ≤ (1 : Int),
      (1 : Int) < (↑(3 : Nat) : Int),
      (0 : Int) ≤ (2 : Int),
      (2 : Int) < (↑(3 : Nat) : Int),
      (chkC (IntKind.wrap IntKind.i64 (IntKind.wrap IntKind.i64 a + (1 : Int))) (IntKind.wrap IntKind.i64 (IntKind.wrap IntKind.i64 b + (1 : Int))) (IntKind.wrap IntKind.i64 (IntKind.wrap IntKind.i64 c + (1 : Int))) (0 : Int) != (0 : Int)) = false,
      decide ((↑len : Int) > (80 : Int)) = true,
      (chkC (IntKind.wrap IntKind.i64 (IntKind.wrap IntKind.i64 a + (1 : Int))) (IntKind.wrap IntKind.i64 (IntKind.wrap IntKind.i64 b + (1 : Int))) (IntKind.wrap IntKind.i64 (IntKind.wrap IntKind.i64 c + (1 : Int))) (0 : Int) == (0 : Int)) = true,
      true = true]) (by kernel_rfl) (.cons (by trivial) (.cons (by trivial) (.cons (by trivial) (.cons (by trivial) (.cons (by trivial) (.cons (by trivial) (.cons (by (simp [ifc_t, *]; done)) (.cons (by exact decide_eq_true (by omega)) (.cons (by (simp [ifc_t, *]; done)) (.cons (by rfl) .nil))))))))))
end Go.Proofs.Ytpldacdgifekmaa
