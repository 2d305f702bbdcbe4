/- Runs of Go code, as printed by a program: no condition beyond those that each states. -/
import Derived.Test.YtlmeemilikladaaMhI
import Derived.Test.YtlmeemilikladaaChecked
import Derived.KernelRfl
namespace Go.Proofs.Ytlmeemilikladaa
set_option linter.unusedVariables false
set_option linter.unusedSimpArgs false
set_option maxRecDepth 100000
open Go.RowKit E
set_option maxHeartbeats 2000000 in
theorem n1_yes (r n f : Int) (hr : 0 ≤ r ∧ r ≤ 18446744073709551615) (hn : 0 ≤ n ∧ n ≤ 18446744073709551615) (hf : 0 ≤ f ∧ f ≤ 18446744073709551615) (hk : ckOne r n f n f = 0) : PureOk Try.prog 14 ([uA r, uA n, uA f]) (.tup [oneN r n f n f, .one (.val (.int .i64 0))]) :=
  pure_run Gc_ok Try.func14 (orc := ⟨[false], []⟩) (obl := [(0 : Int) ≤ r,
      (0 : Int) ≤ n,
      (0 : Int) ≤ f,
      (0 : Int) ≤ n,
      (0 : Int) ≤ f,
      (ckOne r n f n f != (0 : Int)) = false,
      r = r,
      n = n,
      f = f,
      n = n,
      f = f,
      (0 : Int) = (0 : Int)]) (by kernel_rfl) (.cons (by omega) (.cons (by omega) (.cons (by omega) (.cons (by omega) (.cons (by omega) (.cons (by exact bne_eq_false_iff_eq.2 (by omega)) (.cons (by rfl) (.cons (by rfl) (.cons (by rfl) (.cons (by rfl) (.cons (by rfl) (.cons (by rfl) .nil))))))))))))

set_option maxHeartbeats 2000000 in
theorem n1_no (r n f : Int) (hr : 0 ≤ r ∧ r ≤ 18446744073709551615) (hn : 0 ≤ n ∧ n ≤ 18446744073709551615) (hf : 0 ≤ f ∧ f ≤ 18446744073709551615) (hk : ckOne r n f n f ≠ 0) : PureOk Try.prog 14 ([uA r, uA n, uA f]) (.tup [oneN 0 0 0 0 0, .one (.val (.int .i64 (ckOne r n f n f)))]) :=
  pure_run Gc_ok Try.func14 (orc := ⟨[true], []⟩) (obl := [(0 : Int) ≤ r,
      (0 : Int) ≤ n,
      (0 : Int) ≤ f,
      (0 : Int) ≤ n,
      (0 : Int) ≤ f,
      (ckOne r n f n f != (0 : Int)) = true,
      (0 : Int) = (0 : Int),
      (0 : Int) = (0 : Int),
      (0 : Int) = (0 : Int),
      (0 : Int) = (0 : Int),
      (0 : Int) = (0 : Int),
      ckOne r n f n f = ckOne r n f n f]) (by kernel_rfl) (.cons (by omega) (.cons (by omega) (.cons (by omega) (.cons (by omega) (.cons (by omega) (.cons (by exact bne_iff_ne.2 (by omega)) (.cons (by rfl) (.cons (by rfl) (.cons (by rfl) (.cons (by rfl) (.cons (by rfl) (.cons (by rfl) .nil))))))))))))

set_option maxHeartbeats 2000000 in
theorem n2_yes (s q n f : Int) (hs : 0 ≤ s ∧ s ≤ 18446744073709551615) (hq : 0 ≤ q ∧ q ≤ 18446744073709551615) (hn : 0 ≤ n ∧ n ≤ 18446744073709551615) (hf : 0 ≤ f ∧ f ≤ 18446744073709551615) (hk : ckTwo s q n f n f = 0) : PureOk Try.prog 15 ([uA s, uA q, uA n, uA f]) (.tup [twoN s q n f n f, .one (.val (.int .i64 0))]) :=
  pure_run Gc_ok Try.func15 (orc := ⟨[false], []⟩) (obl := [(0 : Int) ≤ s,
      (0 : Int) ≤ q,
      (0 : Int) ≤ n,
      (0 : Int) ≤ f,
      (0 : Int) ≤ n,
      (0 : Int) ≤ f,
      (ckTwo s q n f n f != (0 : Int)) = false,
      s = s,
      q = q,
      n = n,
      f = f,
      n = n,
      f = f,
      (0 : Int) = (0 : Int)]) (by kernel_rfl) (.cons (by omega) (.cons (by omega) (.cons (by omega) (.cons (by omega) (.cons (by omega) (.cons (by omega) (.cons (by exact bne_eq_false_iff_eq.2 (by omega)) (.cons (by rfl) (.cons (by rfl) (.cons (by rfl) (.cons (by rfl) (.cons (by rfl) (.cons (by rfl) (.cons (by rfl) .nil))))))))))))))

set_option maxHeartbeats 2000000 in
theorem n2_no (s q n f : Int) (hs : 0 ≤ s ∧ s ≤ 18446744073709551615) (hq : 0 ≤ q ∧ q ≤ 18446744073709551615) (hn : 0 ≤ n ∧ n ≤ 18446744073709551615) (hf : 0 ≤ f ∧ f ≤ 18446744073709551615) (hk : ckTwo s q n f n f ≠ 0) : PureOk Try.prog 15 ([uA s, uA q, uA n, uA f]) (.tup [twoN 0 0 0 0 0 0, .one (.val (.int .i64 (ckTwo s q n f n f)))]) :=
  pure_run Gc_ok Try.func15 (orc := ⟨[true], []⟩) (obl := [(0 : Int) ≤ s,
      (0 : Int) ≤ q,
      (0 : Int) ≤ n,
      (0 : Int) ≤ f,
      (0 : Int) ≤ n,
      (0 : Int) ≤ f,
      (ckTwo s q n f n f != (0 : Int)) = true,
      (0 : Int) = (0 : Int),
      (0 : Int) = (0 : Int),
      (0 : Int) = (0 : Int),
      (0 : Int) = (0 : Int),
      (0 : Int) = (0 : Int),
      (0 : Int) = (0 : Int),
      ckTwo s q n f n f = ckTwo s q n f n f]) (by kernel_rfl) (.cons (by omega) (.cons (by omega) (.cons (by omega) (.cons (by omega) (.cons (by omega) (.cons (by omega) (.cons (by exact bne_iff_ne.2 (by omega)) (.cons (by rfl) (.cons (by rfl) (.cons (by rfl) (.cons (by rfl) (.cons (by rfl) (.cons (by rfl) (.cons (by rfl) .nil))))))))))))))
end Go.Proofs.Ytlmeemilikladaa
