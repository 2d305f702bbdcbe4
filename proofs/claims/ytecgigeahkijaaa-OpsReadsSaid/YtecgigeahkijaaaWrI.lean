/- Runs of Go code, as printed by a program: no condition beyond those that each states. -/
import Derived.Test.YtecgigeahkijaaaWrH
import Derived.Test.YtecgigeahkijaaaChecked
import Derived.KernelRfl
namespace Go.Proofs.Ytecgigeahkijaaa
set_option linter.unusedVariables false
set_option linter.unusedSimpArgs false
set_option maxRecDepth 100000
open Go.RowKit E
set_option maxHeartbeats 2000000 in
theorem ck_1 (k n : Int) (s : ByteArray) (hw : widthZ k = 0) (h5 : k ≠ 5) (h6 : k ≠ 6) : PureOk Try.prog 26 ([.nv (.agg [.val (.int .i64 k), .val (.int .u64 n), .val (.string s)])]) (iA 6) :=
  pure_run Gb4_ok Try.func26 (orc := ⟨[true, true, true], []⟩) (obl := [(widthZ k == (0 : Int)) = true,
      (k != (5 : Int)) = true,
      (k != (6 : Int)) = true,
      (6 : Int) = (6 : Int)]) (by kernel_rfl) (.cons (by exact decide_eq_true (by omega)) (.cons (by exact bne_iff_ne.2 (by omega)) (.cons (by exact bne_iff_ne.2 (by omega)) (.cons (by rfl) .nil))))

set_option maxHeartbeats 2000000 in
theorem ck_2 (n : Int) (s : ByteArray) (hn : n ≠ 0) : PureOk Try.prog 26 ([.nv (.agg [.val (.int .i64 6), .val (.int .u64 n), .val (.string s)])]) (iA 6) :=
  pure_run Gb4_ok Try.func26 (orc := ⟨[true, true, false, true, true, true], []⟩) (obl := [(widthZ (6 : Int) == (0 : Int)) = true,
      ((6 : Int) != (5 : Int)) = true,
      ((6 : Int) != (6 : Int)) = false,
      ((6 : Int) == (6 : Int)) = true,
      (n != (0 : Int)) = true,
      true = true,
      (6 : Int) = (6 : Int)]) (by kernel_rfl) (.cons (by rfl) (.cons (by rfl) (.cons (by rfl) (.cons (by rfl) (.cons (by exact bne_iff_ne.2 (by omega)) (.cons (by rfl) (.cons (by rfl) .nil)))))))

set_option maxHeartbeats 2000000 in
theorem ck_3 (s : ByteArray) (hl : s.size > 65535) : PureOk Try.prog 26 ([.nv (.agg [.val (.int .i64 6), .val (.int .u64 0), .val (.string s)])]) (iA 4) :=
  pure_run Gb4_ok Try.func26 (orc := ⟨[true, true, false, true, false, false, false, false, false, true], []⟩) (obl := [(widthZ (6 : Int) == (0 : Int)) = true,
      ((6 : Int) != (5 : Int)) = true,
      ((6 : Int) != (6 : Int)) = false,
      ((6 : Int) == (6 : Int)) = true,
      ((0 : Int) != (0 : Int)) = false,
      ((6 : Int) != (6 : Int)) = false,
      false = false,
      decide (widthZ (6 : Int) > (0 : Int)) = false,
      false = false,
      decide ((↑(ByteArray.size s) : Int) > (65535 : Int)) = true,
      (4 : Int) = (4 : Int)]) (by kernel_rfl) (.cons (by rfl) (.cons (by rfl) (.cons (by rfl) (.cons (by rfl) (.cons (by rfl) (.cons (by rfl) (.cons (by rfl) (.cons (by rfl) (.cons (by rfl) (.cons (by exact decide_eq_true (by omega)) (.cons (by rfl) .nil)))))))))))

set_option maxHeartbeats 2000000 in
theorem ck_4 (s : ByteArray) (hl : s.size ≤ 65535) : PureOk Try.prog 26 ([.nv (.agg [.val (.int .i64 6), .val (.int .u64 0), .val (.string s)])]) (iA 0) :=
  pure_run Gb4_ok Try.func26 (orc := ⟨[true, true, false, true, false, false, false, false, false, false], []⟩) (obl := [(widthZ (6 : Int) == (0 : Int)) = true,
      ((6 : Int) != (5 : Int)) = true,
      ((6 : Int) != (6 : Int)) = false,
      ((6 : Int) == (6 : Int)) = true,
      ((0 : Int) != (0 : Int)) = false,
      ((6 : Int) != (6 : Int)) = false,
      false = false,
      decide (widthZ (6 : Int) > (0 : Int)) = false,
      false = false,
      decide ((↑(ByteArray.size s) : Int) > (65535 : Int)) = false,
      (0 : Int) = (0 : Int)]) (by kernel_rfl) (.cons (by rfl) (.cons (by rfl) (.cons (by rfl) (.cons (by rfl) (.cons (by rfl) (.cons (by rfl) (.cons (by rfl) (.cons (by rfl) (.cons (by rfl) (.cons (by exact decide_eq_false (by omega)) (.cons (by rfl) .nil)))))))))))

set_option maxHeartbeats 2000000 in
theorem ck_5 (n : Int) (s : ByteArray) (hs : s.size ≠ 0) : PureOk Try.prog 26 ([.nv (.agg [.val (.int .i64 5), .val (.int .u64 n), .val (.string s)])]) (iA 6) :=
  pure_run Gb4_ok Try.func26 (orc := ⟨[true, false, false, false, false, true, true], []⟩) (obl := [(widthZ (5 : Int) == (0 : Int)) = true,
      ((5 : Int) != (5 : Int)) = false,
      false = false,
      ((5 : Int) == (6 : Int)) = false,
      false = false,
      ((5 : Int) != (6 : Int)) = true,
      (!ByteArray.toList s == ByteArray.toList (ByteArray.mk #[])) = true,
      (6 : Int) = (6 : Int)]) (by kernel_rfl) (.cons (by rfl) (.cons (by rfl) (.cons (by rfl) (.cons (by rfl) (.cons (by rfl) (.cons (by rfl) (.cons (by (rw [str_ne hs]; rfl)) (.cons (by rfl) .nil))))))))

set_option maxHeartbeats 2000000 in
theorem ck_6 (n : Int) (s : ByteArray) (hs : s.size = 0) : PureOk Try.prog 26 ([.nv (.agg [.val (.int .i64 5), .val (.int .u64 n), .val (.string s)])]) (iA 0) :=
  pure_run Gb4_ok Try.func26 (orc := ⟨[true, false, false, false, false, true, false, false, false, false], []⟩) (obl := [(widthZ (5 : Int) == (0 : Int)) = true,
      ((5 : Int) != (5 : Int)) = false,
      false = false,
      ((5 : Int) == (6 : Int)) = false,
      false = false,
      ((5 : Int) != (6 : Int)) = true,
      (!ByteArray.toList s == ByteArray.toList (ByteArray.mk #[])) = false,
      decide (widthZ (5 : Int) > (0 : Int)) = false,
      false = false,
      decide ((↑(ByteArray.size s) : Int) > (65535 : Int)) = false,
      (0 : Int) = (0 : Int)]) (by kernel_rfl) (.cons (by rfl) (.cons (by rfl) (.cons (by rfl) (.cons (by rfl) (.cons (by rfl) (.cons (by rfl) (.cons (by (rw [str_eq hs]; rfl)) (.cons (by rfl) (.cons (by rfl) (.cons (by exact decide_eq_false (by omega)) (.cons (by rfl) .nil)))))))))))

set_option maxHeartbeats 2000000 in
theorem ck_7 (k n : Int) (s : ByteArray) (hk : k ≠ 6) (hw : widthZ k ≠ 0) (hs : s.size ≠ 0) : PureOk Try.prog 26 ([.nv (.agg [.val (.int .i64 k), .val (.int .u64 n), .val (.string s)])]) (iA 6) :=
  pure_run Gb4_ok Try.func26 (orc := ⟨[false, false, false, false, false, true, true], []⟩) (obl := [(widthZ k == (0 : Int)) = false,
      false = false,
      false = false,
      (k == (6 : Int)) = false,
      false = false,
      (k != (6 : Int)) = true,
      (!ByteArray.toList s == ByteArray.toList (ByteArray.mk #[])) = true,
      (6 : Int) = (6 : Int)]) (by kernel_rfl) (.cons (by exact decide_eq_false (by omega)) (.cons (by rfl) (.cons (by rfl) (.cons (by exact decide_eq_false (by omega)) (.cons (by rfl) (.cons (by exact bne_iff_ne.2 (by omega)) (.cons (by (rw [str_ne hs]; rfl)) (.cons (by rfl) .nil))))))))

set_option maxHeartbeats 2000000 in
theorem ck_8 (k n : Int) (s : ByteArray) (hk : k ≠ 6) (hw : 0 < widthZ k) (hw8 : widthZ k ≤ 8) (hs : s.size = 0) (h0 : 0 ≤ n) (h1 : n ≤ 18446744073709551615) (e : IntKind.wrap IntKind.i64 (8 * widthZ k) = 8 * widthZ k) (hb : (Go.Lib.bitLen n.toNat : Int) > 8 * widthZ k) : PureOk Try.prog 26 ([.nv (.agg [.val (.int .i64 k), .val (.int .u64 n), .val (.string s)])]) (iA 5) :=
  pure_run Gb4_ok Try.func26 (orc := ⟨[false, false, false, false, false, true, false, true, true], []⟩) (obl := [(widthZ k == (0 : Int)) = false,
      false = false,
      false = false,
      (k == (6 : Int)) = false,
      false = false,
      (k != (6 : Int)) = true,
      (!ByteArray.toList s == ByteArray.toList (ByteArray.mk #[])) = false,
      decide (widthZ k > (0 : Int)) = true,
      (0 : Int) ≤ n,
      n ≤ (18446744073709551615 : Int),
      decide ((↑(Lib.bitLen (Int.toNat n)) : Int) > IntKind.wrap IntKind.i64 ((8 : Int) * widthZ k)) = true,
      (5 : Int) = (5 : Int)]) (by kernel_rfl) (.cons (by exact decide_eq_false (by omega)) (.cons (by rfl) (.cons (by rfl) (.cons (by exact decide_eq_false (by omega)) (.cons (by rfl) (.cons (by exact bne_iff_ne.2 (by omega)) (.cons (by (rw [str_eq hs]; rfl)) (.cons (by exact decide_eq_true (by omega)) (.cons (by assumption) (.cons (by assumption) (.cons (by (rw [e]; exact decide_eq_true hb)) (.cons (by rfl) .nil))))))))))))

set_option maxHeartbeats 2000000 in
theorem ck_9 (k n : Int) (s : ByteArray) (hk : k ≠ 6) (hw : 0 < widthZ k) (hw8 : widthZ k ≤ 8) (hs : s.size = 0) (h0 : 0 ≤ n) (h1 : n ≤ 18446744073709551615) (e : IntKind.wrap IntKind.i64 (8 * widthZ k) = 8 * widthZ k) (hb : ¬ (Go.Lib.bitLen n.toNat : Int) > 8 * widthZ k) : PureOk Try.prog 26 ([.nv (.agg [.val (.int .i64 k), .val (.int .u64 n), .val (.string s)])]) (iA 0) :=
  pure_run Gb4_ok Try.func26 (orc := ⟨[false, false, false, false, false, true, false, true, false, false], []⟩) (obl := [(widthZ k == (0 : Int)) = false,
      false = false,
      false = false,
      (k == (6 : Int)) = false,
      false = false,
      (k != (6 : Int)) = true,
      (!ByteArray.toList s == ByteArray.toList (ByteArray.mk #[])) = false,
      decide (widthZ k > (0 : Int)) = true,
      (0 : Int) ≤ n,
      n ≤ (18446744073709551615 : Int),
      decide ((↑(Lib.bitLen (Int.toNat n)) : Int) > IntKind.wrap IntKind.i64 ((8 : Int) * widthZ k)) = false,
      decide ((↑(ByteArray.size s) : Int) > (65535 : Int)) = false,
      (0 : Int) = (0 : Int)]) (by kernel_rfl) (.cons (by exact decide_eq_false (by omega)) (.cons (by rfl) (.cons (by rfl) (.cons (by exact decide_eq_false (by omega)) (.cons (by rfl) (.cons (by exact bne_iff_ne.2 (by omega)) (.cons (by (rw [str_eq hs]; rfl)) (.cons (by exact decide_eq_true (by omega)) (.cons (by assumption) (.cons (by assumption) (.cons (by (rw [e]; exact decide_eq_false hb)) (.cons (by exact decide_eq_false (by omega)) (.cons (by rfl) .nil)))))))))))))
end Go.Proofs.Ytecgigeahkijaaa
