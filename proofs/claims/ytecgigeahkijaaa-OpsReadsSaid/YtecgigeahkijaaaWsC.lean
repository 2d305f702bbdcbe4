/- Runs of Go code, as printed by a program: no condition beyond those that each states. -/
import Derived.Test.YtecgigeahkijaaaWsB
import Derived.Test.YtecgigeahkijaaaChecked
import Derived.KernelRfl
namespace Go.Proofs.Ytecgigeahkijaaa
set_option linter.unusedVariables false
set_option linter.unusedSimpArgs false
set_option maxRecDepth 100000
open Go.RowKit E
set_option maxHeartbeats 2000000 in
theorem cl_f (s : ByteArray) (hb : s.size ≤ 140737488355328) : PureOk Try.prog 43 ([sA s]) (sA s) :=
  pure_run GbC_ok Try.func43 (orc := ⟨[], []⟩) (obl := [ByteArray.size s ≤ (140737488355328 : Nat),
      s = s]) (by kernel_rfl) (.cons (by assumption) (.cons (by rfl) .nil))

set_option maxHeartbeats 2000000 in
theorem tx_e (s : ByteArray) (hz : s.size ≤ 140737488355328) (he : (numZ s).2.2 ≠ 0) : PureOk Try.prog 42 ([sA s]) (.tup [.one (.val (.string ⟨#[]⟩)), .one (.val (.int .i64 0)), .one (.val (.int .i64 (numZ s).2.2))]) :=
  pure_run GbC_ok Try.func42 (orc := ⟨[true], []⟩) (obl := [ByteArray.size s ≤ (140737488355328 : Nat),
      (Prod.snd (Prod.snd (numZ s)) != (0 : Int)) = true,
      (ByteArray.mk #[]) = (ByteArray.mk #[]),
      (0 : Int) = (0 : Int),
      Prod.snd (Prod.snd (numZ s)) = Prod.snd (Prod.snd (numZ s))]) (by kernel_rfl) (.cons (by assumption) (.cons (by exact bne_iff_ne.2 (by omega)) (.cons (by rfl) (.cons (by rfl) (.cons (by rfl) .nil)))))

set_option maxHeartbeats 2000000 in
theorem tx_l (s : ByteArray) (hz : s.size ≤ 140737488355328) (he : (numZ s).2.2 = 0) (hn : 65535 < (numZ s).1) : PureOk Try.prog 42 ([sA s]) (.tup [.one (.val (.string ⟨#[]⟩)), .one (.val (.int .i64 0)), .one (.val (.int .i64 4))]) :=
  pure_run GbC_ok Try.func42 (orc := ⟨[false, true], []⟩) (obl := [ByteArray.size s ≤ (140737488355328 : Nat),
      (Prod.snd (Prod.snd (numZ s)) != (0 : Int)) = false,
      decide (Prod.fst (numZ s) > (65535 : Int)) = true,
      (ByteArray.mk #[]) = (ByteArray.mk #[]),
      (0 : Int) = (0 : Int),
      (4 : Int) = (4 : Int)]) (by kernel_rfl) (.cons (by assumption) (.cons (by exact bne_eq_false_iff_eq.2 (by omega)) (.cons (by exact decide_eq_true (by omega)) (.cons (by rfl) (.cons (by rfl) (.cons (by rfl) .nil))))))

set_option maxHeartbeats 2000000 in
theorem tx_s (s : ByteArray) (hz : s.size ≤ 140737488355328) (he : (numZ s).2.2 = 0) (hn : ¬ 65535 < (numZ s).1) (h0 : 0 ≤ (numZ s).1) (ha : 0 ≤ (numZ s).2.1) (hb : (numZ s).2.1 ≤ 10) (hl : (s.size : Int) - (numZ s).2.1 < (numZ s).1) (ew : IntKind.wrap IntKind.i64 (numZ s).1 = (numZ s).1) (ew2 : IntKind.wrap IntKind.i64 ((s.size : Int) - (numZ s).2.1) = (s.size : Int) - (numZ s).2.1) : PureOk Try.prog 42 ([sA s]) (.tup [.one (.val (.string ⟨#[]⟩)), .one (.val (.int .i64 0)), .one (.val (.int .i64 2))]) :=
  pure_run GbC_ok Try.func42 (orc := ⟨[false, false, true], []⟩) (obl := [ByteArray.size s ≤ (140737488355328 : Nat),
      (Prod.snd (Prod.snd (numZ s)) != (0 : Int)) = false,
      decide (Prod.fst (numZ s) > (65535 : Int)) = false,
      decide (IntKind.wrap IntKind.i64 ((↑(ByteArray.size s) : Int) - Prod.fst (Prod.snd (numZ s))) < IntKind.wrap IntKind.i64 (Prod.fst (numZ s))) = true,
      (ByteArray.mk #[]) = (ByteArray.mk #[]),
      (0 : Int) = (0 : Int),
      (2 : Int) = (2 : Int)]) (by kernel_rfl) (.cons (by assumption) (.cons (by exact bne_eq_false_iff_eq.2 (by omega)) (.cons (by exact decide_eq_false (by omega)) (.cons (by (rw [ew, ew2]; exact decide_eq_true hl)) (.cons (by rfl) (.cons (by rfl) (.cons (by rfl) .nil)))))))
end Go.Proofs.Ytecgigeahkijaaa
