/- Runs of Go code, as printed by a program: no condition beyond those that each states. -/
import Derived.Test.YteehpliloegkgaaHdK
import Derived.Test.YteehpliloegkgaaChecked
import Derived.KernelRfl
namespace Go.Proofs.Yteehpliloegkgaa
set_option linter.unusedVariables false
set_option linter.unusedSimpArgs false
set_option maxRecDepth 100000
open Go.RowKit E
attribute [local irreducible] ringZ inetZ halvL strL hfZ wdZ formZ updZ tkE tkH tkB wiZ ByteArray.extract ByteArray.append ByteArray.size
set_option maxHeartbeats 2000000 in
theorem mk_1 (s : ByteArray) (d : Int) (h : d > 63) : PureOk Try.prog 13 ([sA s, .nv (.one (.val (.int .u8 d)))]) (.tup [.one (.val (.string ⟨#[]⟩)), .one (.val (.int .i64 6))]) :=
  pure_run GhE_ok Try.func13 (orc := ⟨[true], []⟩) (obl := [decide (d > (63 : Int)) = true,
      (ByteArray.mk #[]) = (ByteArray.mk #[]),
      (6 : Int) = (6 : Int)]) (by kernel_rfl) (.cons (by exact decide_eq_true (by omega)) (.cons (by rfl) (.cons (by rfl) .nil)))

set_option maxHeartbeats 2000000 in
theorem mk_2 (s : ByteArray) (d : Int) (hz : s.size ≤ 70000) (h : d ≤ 63) (e : ¬ (tkE s = 0)) : PureOk Try.prog 13 ([sA s, .nv (.one (.val (.int .u8 d)))]) (.tup [.one (.val (.string ⟨#[]⟩)), .one (.val (.int .i64 (tkE s)))]) :=
  pure_run GhE_ok Try.func13 (orc := ⟨[false, true], []⟩) (obl := [decide (d > (63 : Int)) = false,
      ByteArray.size s ≤ (140737488355328 : Nat),
      (tkE s != (0 : Int)) = true,
      (ByteArray.mk #[]) = (ByteArray.mk #[]),
      tkE s = tkE s]) (by kernel_rfl) (.cons (by exact decide_eq_false (by omega)) (.cons (by omega) (.cons (by exact bne_iff_ne.2 e) (.cons (by rfl) (.cons (by rfl) .nil)))))

set_option maxHeartbeats 2000000 in
theorem mk_3 (s : ByteArray) (d i : Int) (hz : s.size ≤ 70000) (h : d ≤ 63) (e : tkE s = 0) (hs : 28 ≤ s.size) (ei : IntKind.wrap IntKind.u16 (17664 + IntKind.wrap IntKind.u16 (IntKind.wrap IntKind.u16 d * 2 ^ 2)) = i) (hi : 0 ≤ i ∧ i ≤ 65535) : PureOk Try.prog 13 ([sA s, .nv (.one (.val (.int .u8 d)))]) (.tup [.one (.val (.string (wiZ s 0 i))), .one (.val (.int .i64 0))]) :=
  pure_run GhE_ok Try.func13 (orc := ⟨[false, false], []⟩) (obl := [decide (d > (63 : Int)) = false,
      ByteArray.size s ≤ (140737488355328 : Nat),
      (tkE s != (0 : Int)) = false,
      (0 : Int) ≤ (2 : Int),
      (28 : Nat) ≤ ByteArray.size s,
      ByteArray.size s ≤ (70000 : Nat),
      (0 : Int) = (0 : Int) ∨ (0 : Int) = (8 : Int),
      (0 : Int) ≤ IntKind.wrap IntKind.u16 ((17664 : Int) + IntKind.wrap IntKind.u16 (IntKind.wrap IntKind.u16 d * (2 : Int) ^ (2 : Nat))),
      IntKind.wrap IntKind.u16 ((17664 : Int) + IntKind.wrap IntKind.u16 (IntKind.wrap IntKind.u16 d * (2 : Int) ^ (2 : Nat))) ≤ (65535 : Int),
      wiZ s (Int.toNat (0 : Int)) (IntKind.wrap IntKind.u16 ((17664 : Int) + IntKind.wrap IntKind.u16 (IntKind.wrap IntKind.u16 d * (2 : Int) ^ (2 : Nat)))) = wiZ s (0 : Nat) i,
      (0 : Int) = (0 : Int)]) (by kernel_rfl) (.cons (by exact decide_eq_false (by omega)) (.cons (by omega) (.cons (by exact bne_eq_false_iff_eq.2 e) (.cons (by trivial) (.cons (by assumption) (.cons (by assumption) (.cons (by trivial) (.cons (by exact Int.le_trans hi.1 (Int.le_of_eq ei.symm)) (.cons (by exact Int.le_trans (Int.le_of_eq ei) hi.2) (.cons (by exact congrArg (wiZ s 0) ei) (.cons (by rfl) .nil)))))))))))

set_option maxHeartbeats 2000000 in
theorem ho_2 (s : ByteArray) (hz : s.size ≤ 70000) (e : ¬ (tkE s = 0)) : PureOk Try.prog 15 ([sA s]) (.tup [.one (.val (.string ⟨#[]⟩)), .one (.val (.int .i64 (tkE s)))]) :=
  pure_run GhE_ok Try.func15 (orc := ⟨[true], []⟩) (obl := [ByteArray.size s ≤ (140737488355328 : Nat),
      (tkE s != (0 : Int)) = true,
      (ByteArray.mk #[]) = (ByteArray.mk #[]),
      tkE s = tkE s]) (by kernel_rfl) (.cons (by omega) (.cons (by exact bne_iff_ne.2 e) (.cons (by rfl) (.cons (by rfl) .nil))))

set_option maxHeartbeats 2000000 in
theorem ho_3 (s : ByteArray) (hz : s.size ≤ 70000) (e : tkE s = 0) (ht : (tkH s).ttl < 2) : PureOk Try.prog 15 ([sA s]) (.tup [.one (.val (.string ⟨#[]⟩)), .one (.val (.int .i64 21))]) :=
  pure_run GhE_ok Try.func15 (orc := ⟨[false, true], []⟩) (obl := [ByteArray.size s ≤ (140737488355328 : Nat),
      (tkE s != (0 : Int)) = false,
      decide (Hd.ttl (tkH s) < (2 : Int)) = true,
      (ByteArray.mk #[]) = (ByteArray.mk #[]),
      (21 : Int) = (21 : Int)]) (by kernel_rfl) (.cons (by omega) (.cons (by exact bne_eq_false_iff_eq.2 e) (.cons (by exact decide_eq_true (by omega)) (.cons (by rfl) (.cons (by rfl) .nil)))))

set_option maxHeartbeats 2000000 in
theorem ho_4 (s : ByteArray) (i : Int) (hz : s.size ≤ 70000) (e : tkE s = 0) (ht : ¬ (tkH s).ttl < 2) (hs : 28 ≤ s.size) (ei : IntKind.wrap IntKind.u16 (hfZ s 8 - 256) = i) (hi : 0 ≤ i ∧ i ≤ 65535) : PureOk Try.prog 15 ([sA s]) (.tup [.one (.val (.string (wiZ s 8 i))), .one (.val (.int .i64 0))]) :=
  pure_run GhE_ok Try.func15 (orc := ⟨[false, false], []⟩) (obl := [ByteArray.size s ≤ (140737488355328 : Nat),
      (tkE s != (0 : Int)) = false,
      decide (Hd.ttl (tkH s) < (2 : Int)) = false,
      (0 : Int) ≤ (8 : Int),
      (8 : Int) + (1 : Int) < (↑(ByteArray.size s) : Int),
      ByteArray.size s ≤ (140737488355328 : Nat),
      (28 : Nat) ≤ ByteArray.size s,
      ByteArray.size s ≤ (70000 : Nat),
      (8 : Int) = (0 : Int) ∨ (8 : Int) = (8 : Int),
      (0 : Int) ≤ IntKind.wrap IntKind.u16 (hfZ s (8 : Int) - (256 : Int)),
      IntKind.wrap IntKind.u16 (hfZ s (8 : Int) - (256 : Int)) ≤ (65535 : Int),
      wiZ s (Int.toNat (8 : Int)) (IntKind.wrap IntKind.u16 (hfZ s (8 : Int) - (256 : Int))) = wiZ s (8 : Nat) i,
      (0 : Int) = (0 : Int)]) (by kernel_rfl) (.cons (by omega) (.cons (by exact bne_eq_false_iff_eq.2 e) (.cons (by exact decide_eq_false (by omega)) (.cons (by trivial) (.cons (by omega) (.cons (by omega) (.cons (by assumption) (.cons (by assumption) (.cons (by trivial) (.cons (by exact Int.le_trans hi.1 (Int.le_of_eq ei.symm)) (.cons (by exact Int.le_trans (Int.le_of_eq ei) hi.2) (.cons (by exact congrArg (wiZ s 8) ei) (.cons (by rfl) .nil)))))))))))))
end Go.Proofs.Yteehpliloegkgaa
