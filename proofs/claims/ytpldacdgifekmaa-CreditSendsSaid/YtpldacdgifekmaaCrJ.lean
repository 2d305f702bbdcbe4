/- Runs of Go code, as printed by a program: no condition beyond those that each states. -/
import Derived.Test.YtpldacdgifekmaaCrI
import Derived.Test.YtpldacdgifekmaaChecked
import Derived.KernelRfl
namespace Go.Proofs.Ytpldacdgifekmaa
set_option linter.unusedVariables false
set_option linter.unusedSimpArgs false
set_option maxRecDepth 100000
open Go.RowKit E
set_option maxHeartbeats 2000000 in
theorem plays_tt (i s h v : Int) (len : Nat) (t x : Nat → Int) (wt : Nat → Bool) (hl : len ≤ 200) (bt : ∀ k, k < len → 0 ≤ t k ∧ t k ≤ 18446744073709551615) (bx : ∀ k, k < len → 0 ≤ x k ∧ x k ≤ 18446744073709551615) (k0 : okB i s h 0 = true) (k1 : okB i s h v = true) : LawOk Try.prog 3 ([.nv (clN i s h v), .nv (.one (.own 0))]) ([.ro 3 len (actsG t x wt)]) (bA true) :=
  law_run G2_ok Try.func3 (orc := ⟨[false, false, true, false, false, false, false, false, false], [⟨playsS len t x wt 0 i s h v, .exit 0, playsE⟩]⟩) (obl := [decide ((↑len : Int) > (200 : Int)) = false,
      (!(chkC i s h (0 : Int) == (0 : Int)) == okB i s h (0 : Int)) = false,
      okB i s h (0 : Int) = true,
      (!(ifc i s h (0 : Int) i == i && (ifc i s h (0 : Int) s == s && (ifc i s h (0 : Int) h == h && ((0 : Int) == (0 : Int) && true))))) = false,
      (!okB i s h (0 : Int)) = false,
      false = false,
      (!(chkC i s h v == (0 : Int)) == okB i s h v) = false,
      (!okB i s h v) = false,
      false = false,
      (0 : Nat) = (0 : Nat),
      (0 : Nat) = (0 : Nat),
      (↑len : Int) = (↑len : Int),
      (0 : Int) = (↑(0 : Nat) : Int),
      len = len,
      ∀ (i : Nat), i < len → t i = t i ∧ x i = x i ∧ wt i = wt i ∧ True,
      i = i,
      s = s,
      h = h,
      v = v,
      i = i,
      s = s,
      h = h,
      v = v,
      (1 : Nat) ≤ (3 : Nat),
      CodeOk Try.prog (1 : Nat) (Code.loop (loopOf Try.f3 (0 : Nat))) (playsS len t x wt (0 : Nat) i s h v) (Ex.exit (0 : Nat)) playsE,
      true = true]) (by kernel_rfl) (.cons (by exact decide_eq_false (by omega)) (.cons (by (simp [chk0, chk6, ifc_t, ifc_f, *]; done)) (.cons (by assumption) (.cons (by (simp [chk0, chk6, ifc_t, ifc_f, *]; done)) (.cons (by (simp [chk0, chk6, ifc_t, ifc_f, *]; done)) (.cons (by rfl) (.cons (by (simp [chk0, chk6, ifc_t, ifc_f, *]; done)) (.cons (by (simp [chk0, chk6, ifc_t, ifc_f, *]; done)) (.cons (by rfl) (.cons (by rfl) (.cons (by rfl) (.cons (by rfl) (.cons (by rfl) (.cons (by rfl) (.cons (by (simp [chk0, chk6, ifc_t, ifc_f, *]; done)) (.cons (by rfl) (.cons (by rfl) (.cons (by rfl) (.cons (by rfl) (.cons (by rfl) (.cons (by rfl) (.cons (by rfl) (.cons (by rfl) (.cons (by trivial) (.cons (by exact plays_loop i s h v len t x wt hl bt bx) (.cons (by rfl) .nil))))))))))))))))))))))))))

set_option maxHeartbeats 2000000 in
theorem plays_tf (i s h v : Int) (len : Nat) (t x : Nat → Int) (wt : Nat → Bool) (hl : len ≤ 200) (bt : ∀ k, k < len → 0 ≤ t k ∧ t k ≤ 18446744073709551615) (bx : ∀ k, k < len → 0 ≤ x k ∧ x k ≤ 18446744073709551615) (k0 : okB i s h 0 = true) (k1 : okB i s h v = false) : LawOk Try.prog 3 ([.nv (clN i s h v), .nv (.one (.own 0))]) ([.ro 3 len (actsG t x wt)]) (bA true) :=
  law_run G2_ok Try.func3 (orc := ⟨[false, false, true, false, false, false, false, true, false], [⟨playsS len t x wt 0 i s h v, .exit 0, playsE⟩]⟩) (obl := [decide ((↑len : Int) > (200 : Int)) = false,
      (!(chkC i s h (0 : Int) == (0 : Int)) == okB i s h (0 : Int)) = false,
      okB i s h (0 : Int) = true,
      (!(ifc i s h (0 : Int) i == i && (ifc i s h (0 : Int) s == s && (ifc i s h (0 : Int) h == h && ((0 : Int) == (0 : Int) && true))))) = false,
      (!okB i s h (0 : Int)) = false,
      false = false,
      (!(chkC i s h v == (0 : Int)) == okB i s h v) = false,
      (!okB i s h v) = true,
      (chkC i s h v != (6 : Int)) = false,
      (0 : Nat) = (0 : Nat),
      (0 : Nat) = (0 : Nat),
      (↑len : Int) = (↑len : Int),
      (0 : Int) = (↑(0 : Nat) : Int),
      len = len,
      ∀ (i : Nat), i < len → t i = t i ∧ x i = x i ∧ wt i = wt i ∧ True,
      i = i,
      s = s,
      h = h,
      v = v,
      i = i,
      s = s,
      h = h,
      v = v,
      (1 : Nat) ≤ (3 : Nat),
      CodeOk Try.prog (1 : Nat) (Code.loop (loopOf Try.f3 (0 : Nat))) (playsS len t x wt (0 : Nat) i s h v) (Ex.exit (0 : Nat)) playsE,
      true = true]) (by kernel_rfl) (.cons (by exact decide_eq_false (by omega)) (.cons (by (simp [chk0, chk6, ifc_t, ifc_f, *]; done)) (.cons (by assumption) (.cons (by (simp [chk0, chk6, ifc_t, ifc_f, *]; done)) (.cons (by (simp [chk0, chk6, ifc_t, ifc_f, *]; done)) (.cons (by rfl) (.cons (by (simp [chk0, chk6, ifc_t, ifc_f, *]; done)) (.cons (by (simp [chk0, chk6, ifc_t, ifc_f, *]; done)) (.cons (by (simp [chk0, chk6, ifc_t, ifc_f, *]; done)) (.cons (by rfl) (.cons (by rfl) (.cons (by rfl) (.cons (by rfl) (.cons (by rfl) (.cons (by (simp [chk0, chk6, ifc_t, ifc_f, *]; done)) (.cons (by rfl) (.cons (by rfl) (.cons (by rfl) (.cons (by rfl) (.cons (by rfl) (.cons (by rfl) (.cons (by rfl) (.cons (by rfl) (.cons (by trivial) (.cons (by exact plays_loop i s h v len t x wt hl bt bx) (.cons (by rfl) .nil))))))))))))))))))))))))))

set_option maxHeartbeats 2000000 in
theorem plays_ft (i s h v : Int) (len : Nat) (t x : Nat → Int) (wt : Nat → Bool) (hl : len ≤ 200) (bt : ∀ k, k < len → 0 ≤ t k ∧ t k ≤ 18446744073709551615) (bx : ∀ k, k < len → 0 ≤ x k ∧ x k ≤ 18446744073709551615) (k0 : okB i s h 0 = false) (k1 : okB i s h v = true) : LawOk Try.prog 3 ([.nv (clN i s h v), .nv (.one (.own 0))]) ([.ro 3 len (actsG t x wt)]) (bA true) :=
  law_run G2_ok Try.func3 (orc := ⟨[false, false, false, false, true, false, false, false, false, false], [⟨playsS len t x wt 0 i s h v, .exit 0, playsE⟩]⟩) (obl := [decide ((↑len : Int) > (200 : Int)) = false,
      (!(chkC i s h (0 : Int) == (0 : Int)) == okB i s h (0 : Int)) = false,
      okB i s h (0 : Int) = false,
      false = false,
      (!okB i s h (0 : Int)) = true,
      (chkC i s h (0 : Int) != (6 : Int)) = false,
      (!(ifc i s h (0 : Int) i == (0 : Int) && (ifc i s h (0 : Int) s == (0 : Int) && (ifc i s h (0 : Int) h == (0 : Int) && ((0 : Int) == (0 : Int) && true))))) = false,
      (!(chkC i s h v == (0 : Int)) == okB i s h v) = false,
      (!okB i s h v) = false,
      false = false,
      (0 : Nat) = (0 : Nat),
      (0 : Nat) = (0 : Nat),
      (↑len : Int) = (↑len : Int),
      (0 : Int) = (↑(0 : Nat) : Int),
      len = len,
      ∀ (i : Nat), i < len → t i = t i ∧ x i = x i ∧ wt i = wt i ∧ True,
      i = i,
      s = s,
      h = h,
      v = v,
      i = i,
      s = s,
      h = h,
      v = v,
      (1 : Nat) ≤ (3 : Nat),
      CodeOk Try.prog (1 : Nat) (Code.loop (loopOf Try.f3 (0 : Nat))) (playsS len t x wt (0 : Nat) i s h v) (Ex.exit (0 : Nat)) playsE,
      true = true]) (by kernel_rfl) (.cons (by exact decide_eq_false (by omega)) (.cons (by (simp [chk0, chk6, ifc_t, ifc_f, *]; done)) (.cons (by assumption) (.cons (by rfl) (.cons (by (simp [chk0, chk6, ifc_t, ifc_f, *]; done)) (.cons (by (simp [chk0, chk6, ifc_t, ifc_f, *]; done)) (.cons (by (simp [chk0, chk6, ifc_t, ifc_f, *]; done)) (.cons (by (simp [chk0, chk6, ifc_t, ifc_f, *]; done)) (.cons (by (simp [chk0, chk6, ifc_t, ifc_f, *]; done)) (.cons (by rfl) (.cons (by rfl) (.cons (by rfl) (.cons (by rfl) (.cons (by rfl) (.cons (by rfl) (.cons (by (simp [chk0, chk6, ifc_t, ifc_f, *]; done)) (.cons (by rfl) (.cons (by rfl) (.cons (by rfl) (.cons (by rfl) (.cons (by rfl) (.cons (by rfl) (.cons (by rfl) (.cons (by rfl) (.cons (by trivial) (.cons (by exact plays_loop i s h v len t x wt hl bt bx) (.cons (by rfl) .nil)))))))))))))))))))))))))))

set_option maxHeartbeats 2000000 in
theorem plays_ff (i s h v : Int) (len : Nat) (t x : Nat → Int) (wt : Nat → Bool) (hl : len ≤ 200) (bt : ∀ k, k < len → 0 ≤ t k ∧ t k ≤ 18446744073709551615) (bx : ∀ k, k < len → 0 ≤ x k ∧ x k ≤ 18446744073709551615) (k0 : okB i s h 0 = false) (k1 : okB i s h v = false) : LawOk Try.prog 3 ([.nv (clN i s h v), .nv (.one (.own 0))]) ([.ro 3 len (actsG t x wt)]) (bA true) :=
  law_run G2_ok Try.func3 (orc := ⟨[false, false, false, false, true, false, false, false, true, false], [⟨playsS len t x wt 0 i s h v, .exit 0, playsE⟩]⟩) (obl := [decide ((↑len : Int) > (200 : Int)) = false,
      (!(chkC i s h (0 : Int) == (0 : Int)) == okB i s h (0 : Int)) = false,
      okB i s h (0 : Int) = false,
      false = false,
      (!okB i s h (0 : Int)) = true,
      (chkC i s h (0 : Int) != (6 : Int)) = false,
      (!(ifc i s h (0 : Int) i == (0 : Int) && (ifc i s h (0 : Int) s == (0 : Int) && (ifc i s h (0 : Int) h == (0 : Int) && ((0 : Int) == (0 : Int) && true))))) = false,
      (!(chkC i s h v == (0 : Int)) == okB i s h v) = false,
      (!okB i s h v) = true,
      (chkC i s h v != (6 : Int)) = false,
      (0 : Nat) = (0 : Nat),
      (0 : Nat) = (0 : Nat),
      (↑len : Int) = (↑len : Int),
      (0 : Int) = (↑(0 : Nat) : Int),
      len = len,
      ∀ (i : Nat), i < len → t i = t i ∧ x i = x i ∧ wt i = wt i ∧ True,
      i = i,
      s = s,
      h = h,
      v = v,
      i = i,
      s = s,
      h = h,
      v = v,
      (1 : Nat) ≤ (3 : Nat),
      CodeOk Try.prog (1 : Nat) (Code.loop (loopOf Try.f3 (0 : Nat))) (playsS len t x wt (0 : Nat) i s h v) (Ex.exit (0 : Nat)) playsE,
      true = true]) (by kernel_rfl) (.cons (by exact decide_eq_false (by omega)) (.cons (by (simp [chk0, chk6, ifc_t, ifc_f, *]; done)) (.cons (by assumption) (.cons (by rfl) (.cons (by (simp [chk0, chk6, ifc_t, ifc_f, *]; done)) (.cons (by (simp [chk0, chk6, ifc_t, ifc_f, *]; done)) (.cons (by (simp [chk0, chk6, ifc_t, ifc_f, *]; done)) (.cons (by (simp [chk0, chk6, ifc_t, ifc_f, *]; done)) (.cons (by (simp [chk0, chk6, ifc_t, ifc_f, *]; done)) (.cons (by (simp [chk0, chk6, ifc_t, ifc_f, *]; done)) (.cons (by rfl) (.cons (by rfl) (.cons (by rfl) (.cons (by rfl) (.cons (by rfl) (.cons (by (simp [chk0, chk6, ifc_t, ifc_f, *]; done)) (.cons (by rfl) (.cons (by rfl) (.cons (by rfl) (.cons (by rfl) (.cons (by rfl) (.cons (by rfl) (.cons (by rfl) (.cons (by rfl) (.cons (by trivial) (.cons (by exact plays_loop i s h v len t x wt hl bt bx) (.cons (by rfl) .nil)))))))))))))))))))))))))))

set_option maxHeartbeats 2000000 in
theorem plays_long (i s h v : Int) (len : Nat) (g : Nat → List At) (hl : 200 < len) : LawOk Try.prog 3 ([.nv (clN i s h v), .nv (.one (.own 0))]) ([.ro 3 len g]) (bA true) :=
  law_run G2_ok Try.func3 (orc := ⟨[true], []⟩) (obl := [decide ((↑len : Int) > (200 : Int)) = true,
      true = true]) (by kernel_rfl) (.cons (by exact decide_eq_true (by omega)) (.cons (by rfl) .nil))
end Go.Proofs.Ytpldacdgifekmaa
