/- Runs of Go code, as printed by a program: no condition beyond those that each states. -/
import Derived.Test.YtpldacdgifekmaaCbI
import Derived.Test.YtpldacdgifekmaaChecked
import Derived.KernelRfl
namespace Go.Proofs.Ytpldacdgifekmaa
set_option linter.unusedVariables false
set_option linter.unusedSimpArgs false
set_option maxRecDepth 100000
open Go.RowKit E
set_option maxHeartbeats 2000000 in
theorem bounds_law (a b c m : Int) (ha : 0 ≤ a ∧ a ≤ 65535) (hb : 0 ≤ b ∧ b ≤ 65535) (hc : 0 ≤ c ∧ c ≤ 65535) (hm : 0 ≤ m ∧ m ≤ 65535) (len : Nat) (t x : Nat → Int) (wt : Nat → Bool) (hl : len ≤ 200) (bt : ∀ k, k < len → 0 ≤ t k ∧ t k ≤ 18446744073709551615) (bx : ∀ k, k < len → 0 ≤ x k ∧ x k ≤ 18446744073709551615) (k0 : okB (a + 1) (b + 1) (c + 1) 0 = true) (k1 : chkC (a + 1) (b + 1) (c + 1) 0 = 0) (wa : IntKind.wrap IntKind.i64 (IntKind.wrap IntKind.i64 a + 1) = a + 1) (wb : IntKind.wrap IntKind.i64 (IntKind.wrap IntKind.i64 b + 1) = b + 1) (wc : IntKind.wrap IntKind.i64 (IntKind.wrap IntKind.i64 c + 1) = c + 1) : LawOk Try.prog 4 ([.nv (.agg [.val (.int .u16 a), .val (.int .u16 b), .val (.int .u16 c)]), .nv (.one (.val (.int .u16 m))), .nv (.one (.own 0))]) ([.ro 3 len (actsG t x wt)]) (bA true) :=
  law_run G2_ok Try.func4 (orc := ⟨[false, false], [⟨boundsS m len t x wt 0 (a + 1) (b + 1) (c + 1) 0, .exit 0, boundsE⟩]⟩) (obl := [(0 : Int) ≤ (0 : Int),
      (0 : Int) < (↑(3 : Nat) : Int),
      (0 : Int) ≤ (1 : Int),
      (1 : Int) < (↑(3 : Nat) : Int),
      (0 : Int) ≤ (2 : Int),
      (2 : Int) < (↑(3 : Nat) : Int),
      (chkC (IntKind.wrap IntKind.i64 (IntKind.wrap IntKind.i64 a + (1 : Int))) (IntKind.wrap IntKind.i64 (IntKind.wrap IntKind.i64 b + (1 : Int))) (IntKind.wrap IntKind.i64 (IntKind.wrap IntKind.i64 c + (1 : Int))) (0 : Int) != (0 : Int)) = false,
      decide ((↑len : Int) > (200 : Int)) = false,
      m = m,
      (0 : Nat) = (0 : Nat),
      (↑len : Int) = (↑len : Int),
      (0 : Int) = (↑(0 : Nat) : Int),
      len = len,
      ∀ (i : Nat), i < len → t i = t i ∧ x i = x i ∧ wt i = wt i ∧ True,
      ifc (IntKind.wrap IntKind.i64 (IntKind.wrap IntKind.i64 a + (1 : Int))) (IntKind.wrap IntKind.i64 (IntKind.wrap IntKind.i64 b + (1 : Int))) (IntKind.wrap IntKind.i64 (IntKind.wrap IntKind.i64 c + (1 : Int))) (0 : Int) (IntKind.wrap IntKind.i64 (IntKind.wrap IntKind.i64 a + (1 : Int))) = a + (1 : Int),
      ifc (IntKind.wrap IntKind.i64 (IntKind.wrap IntKind.i64 a + (1 : Int))) (IntKind.wrap IntKind.i64 (IntKind.wrap IntKind.i64 b + (1 : Int))) (IntKind.wrap IntKind.i64 (IntKind.wrap IntKind.i64 c + (1 : Int))) (0 : Int) (IntKind.wrap IntKind.i64 (IntKind.wrap IntKind.i64 b + (1 : Int))) = b + (1 : Int),
      ifc (IntKind.wrap IntKind.i64 (IntKind.wrap IntKind.i64 a + (1 : Int))) (IntKind.wrap IntKind.i64 (IntKind.wrap IntKind.i64 b + (1 : Int))) (IntKind.wrap IntKind.i64 (IntKind.wrap IntKind.i64 c + (1 : Int))) (0 : Int) (IntKind.wrap IntKind.i64 (IntKind.wrap IntKind.i64 c + (1 : Int))) = c + (1 : Int),
      (0 : Int) = (0 : Int),
      (1 : Nat) ≤ (3 : Nat),
      CodeOk Try.prog (1 : Nat) (Code.loop (loopOf Try.f4 (0 : Nat))) (boundsS m len t x wt (0 : Nat) (a + (1 : Int)) (b + (1 : Int)) (c + (1 : Int)) (0 : Int)) (Ex.exit (0 : Nat)) boundsE,
      true = true]) (by kernel_rfl) (.cons (by trivial) (.cons (by trivial) (.cons (by trivial) (.cons (by trivial) (.cons (by trivial) (.cons (by trivial) (.cons (by (simp [ifc_t, *]; done)) (.cons (by exact decide_eq_false (by omega)) (.cons (by rfl) (.cons (by rfl) (.cons (by rfl) (.cons (by rfl) (.cons (by rfl) (.cons (by (simp [ifc_t, *]; done)) (.cons (by (simp [ifc_t, *]; done)) (.cons (by (simp [ifc_t, *]; done)) (.cons (by (simp [ifc_t, *]; done)) (.cons (by rfl) (.cons (by trivial) (.cons (by exact bounds_loop (a + 1) (b + 1) (c + 1) m len t x wt hl bt bx hm k0) (.cons (by rfl) .nil)))))))))))))))))))))

set_option maxHeartbeats 2000000 in
theorem bounds_long (a b c m : Int) (len : Nat) (g : Nat → List At) (hl : 200 < len) (k0 : okB (a + 1) (b + 1) (c + 1) 0 = true) (k1 : chkC (a + 1) (b + 1) (c + 1) 0 = 0) (wa : IntKind.wrap IntKind.i64 (IntKind.wrap IntKind.i64 a + 1) = a + 1) (wb : IntKind.wrap IntKind.i64 (IntKind.wrap IntKind.i64 b + 1) = b + 1) (wc : IntKind.wrap IntKind.i64 (IntKind.wrap IntKind.i64 c + 1) = c + 1) : LawOk Try.prog 4 ([.nv (.agg [.val (.int .u16 a), .val (.int .u16 b), .val (.int .u16 c)]), .nv (.one (.val (.int .u16 m))), .nv (.one (.own 0))]) ([.ro 3 len g]) (bA true) :=
  law_run G2_ok Try.func4 (orc := ⟨[false, true, true], []⟩) (obl := [(0 : Int) ≤ (0 : Int),
      (0 : Int) < (↑(3 : Nat) : Int),
      (0 : Int) ≤ (1 : Int),
      (1 : Int) < (↑(3 : Nat) : Int),
      (0 : Int) ≤ (2 : Int),
      (2 : Int) < (↑(3 : Nat) : Int),
      (chkC (IntKind.wrap IntKind.i64 (IntKind.wrap IntKind.i64 a + (1 : Int))) (IntKind.wrap IntKind.i64 (IntKind.wrap IntKind.i64 b + (1 : Int))) (IntKind.wrap IntKind.i64 (IntKind.wrap IntKind.i64 c + (1 : Int))) (0 : Int) != (0 : Int)) = false,
      decide ((↑len : Int) > (200 : Int)) = true,
      (chkC (IntKind.wrap IntKind.i64 (IntKind.wrap IntKind.i64 a + (1 : Int))) (IntKind.wrap IntKind.i64 (IntKind.wrap IntKind.i64 b + (1 : Int))) (IntKind.wrap IntKind.i64 (IntKind.wrap IntKind.i64 c + (1 : Int))) (0 : Int) == (0 : Int)) = true,
      true = true]) (by kernel_rfl) (.cons (by trivial) (.cons (by trivial) (.cons (by trivial) (.cons (by trivial) (.cons (by trivial) (.cons (by trivial) (.cons (by (simp [ifc_t, *]; done)) (.cons (by exact decide_eq_true (by omega)) (.cons (by (simp [ifc_t, *]; done)) (.cons (by rfl) .nil))))))))))
end Go.Proofs.Ytpldacdgifekmaa
