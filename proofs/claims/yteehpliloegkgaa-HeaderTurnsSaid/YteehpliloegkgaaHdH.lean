/- Runs of Go code, as printed by a program: no condition beyond those that each states. -/
import Derived.Test.YteehpliloegkgaaHdG
import Derived.Test.YteehpliloegkgaaChecked
import Derived.KernelRfl
namespace Go.Proofs.Yteehpliloegkgaa
set_option linter.unusedVariables false
set_option linter.unusedSimpArgs false
set_option maxRecDepth 100000
open Go.RowKit E
attribute [local irreducible] ringZ inetZ halvL strL hfZ
set_option maxHeartbeats 2000000 in
theorem up_f (t w i a b r : Int) (ea : IntKind.wrap IntKind.u32 (bits BinOp.xor IntKind.u16 IntKind.u16.max t) = a) (eb : IntKind.wrap IntKind.u32 (bits BinOp.xor IntKind.u16 IntKind.u16.max w) = b) (ei : IntKind.wrap IntKind.u32 i = i) (ha : 0 ≤ a ∧ a ≤ 65535) (hb : 0 ≤ b ∧ b ≤ 65535) (hi : 0 ≤ i ∧ i ≤ 65535) (hab : 0 ≤ ringZ a b ∧ ringZ a b ≤ 65535) (er : bits BinOp.xor IntKind.u16 IntKind.u16.max (IntKind.wrap IntKind.u16 (ringZ (ringZ a b) i)) = r) : PureOk Try.prog 32 ([.nv (.one (.val (.int .u16 t))), .nv (.one (.val (.int .u16 w))), .nv (.one (.val (.int .u16 i)))]) (.nv (.one (.val (.int .u16 r)))) :=
  pure_run GhC_ok Try.func32 (orc := ⟨[], []⟩) (obl := [(0 : Int) ≤ IntKind.wrap IntKind.u32 (bits BinOp.xor IntKind.u16 (if IntKind.signed IntKind.u16 = true then (-1 : Int) else IntKind.max IntKind.u16) t),
      IntKind.wrap IntKind.u32 (bits BinOp.xor IntKind.u16 (if IntKind.signed IntKind.u16 = true then (-1 : Int) else IntKind.max IntKind.u16) t) ≤ (65535 : Int),
      (0 : Int) ≤ IntKind.wrap IntKind.u32 (bits BinOp.xor IntKind.u16 (if IntKind.signed IntKind.u16 = true then (-1 : Int) else IntKind.max IntKind.u16) w),
      IntKind.wrap IntKind.u32 (bits BinOp.xor IntKind.u16 (if IntKind.signed IntKind.u16 = true then (-1 : Int) else IntKind.max IntKind.u16) w) ≤ (65535 : Int),
      (0 : Int) ≤ ringZ (IntKind.wrap IntKind.u32 (bits BinOp.xor IntKind.u16 (if IntKind.signed IntKind.u16 = true then (-1 : Int) else IntKind.max IntKind.u16) t)) (IntKind.wrap IntKind.u32 (bits BinOp.xor IntKind.u16 (if IntKind.signed IntKind.u16 = true then (-1 : Int) else IntKind.max IntKind.u16) w)),
      ringZ (IntKind.wrap IntKind.u32 (bits BinOp.xor IntKind.u16 (if IntKind.signed IntKind.u16 = true then (-1 : Int) else IntKind.max IntKind.u16) t)) (IntKind.wrap IntKind.u32 (bits BinOp.xor IntKind.u16 (if IntKind.signed IntKind.u16 = true then (-1 : Int) else IntKind.max IntKind.u16) w)) ≤ (65535 : Int),
      (0 : Int) ≤ IntKind.wrap IntKind.u32 i,
      IntKind.wrap IntKind.u32 i ≤ (65535 : Int),
      bits BinOp.xor IntKind.u16 (if IntKind.signed IntKind.u16 = true then (-1 : Int) else IntKind.max IntKind.u16) (IntKind.wrap IntKind.u16 (ringZ (ringZ (IntKind.wrap IntKind.u32 (bits BinOp.xor IntKind.u16 (if IntKind.signed IntKind.u16 = true then (-1 : Int) else IntKind.max IntKind.u16) t)) (IntKind.wrap IntKind.u32 (bits BinOp.xor IntKind.u16 (if IntKind.signed IntKind.u16 = true then (-1 : Int) else IntKind.max IntKind.u16) w))) (IntKind.wrap IntKind.u32 i))) = r]) (by kernel_rfl) (.cons (by exact Int.le_trans ha.1 (Int.le_of_eq ea.symm)) (.cons (by exact Int.le_trans (Int.le_of_eq ea) ha.2) (.cons (by exact Int.le_trans hb.1 (Int.le_of_eq eb.symm)) (.cons (by exact Int.le_trans (Int.le_of_eq eb) hb.2) (.cons (by exact Int.le_trans hab.1 (Int.le_of_eq (congr (congrArg ringZ ea) eb).symm)) (.cons (by exact Int.le_trans (Int.le_of_eq (congr (congrArg ringZ ea) eb)) hab.2) (.cons (by (rw [ei]; exact hi.1)) (.cons (by (rw [ei]; exact hi.2)) (.cons (by exact (congrArg (fun z => bits BinOp.xor IntKind.u16 IntKind.u16.max (IntKind.wrap IntKind.u16 z)) (congr (congrArg ringZ (congr (congrArg ringZ ea) eb)) ei)).trans er) .nil)))))))))

set_option maxHeartbeats 2000000 in
theorem wd_f (s : ByteArray) (k : Nat) (r : Int) (hk : k + 3 < s.size) (hz : s.size ≤ 140737488355328) (e2 : IntKind.wrap IntKind.i64 ((k : Int) + 2) = (k : Int) + 2) (er : IntKind.wrap IntKind.u32 (IntKind.wrap IntKind.u32 (IntKind.wrap IntKind.u32 (hfZ s k) * 2 ^ 16) + IntKind.wrap IntKind.u32 (hfZ s ((k : Int) + 2))) = r) : PureOk Try.prog 24 ([sA s, iA (k : Nat)]) (.nv (.one (.val (.int .u32 r)))) :=
  pure_run GhC_ok Try.func24 (orc := ⟨[], []⟩) (obl := [(0 : Int) ≤ (↑k : Int),
      (↑k : Int) + (1 : Int) < (↑(ByteArray.size s) : Int),
      ByteArray.size s ≤ (140737488355328 : Nat),
      (0 : Int) ≤ (16 : Int),
      (0 : Int) ≤ IntKind.wrap IntKind.i64 ((↑k : Int) + (2 : Int)),
      IntKind.wrap IntKind.i64 ((↑k : Int) + (2 : Int)) + (1 : Int) < (↑(ByteArray.size s) : Int),
      ByteArray.size s ≤ (140737488355328 : Nat),
      IntKind.wrap IntKind.u32 (IntKind.wrap IntKind.u32 (IntKind.wrap IntKind.u32 (hfZ s (↑k : Int)) * (2 : Int) ^ (16 : Nat)) + IntKind.wrap IntKind.u32 (hfZ s (IntKind.wrap IntKind.i64 ((↑k : Int) + (2 : Int))))) = r]) (by kernel_rfl) (.cons (by omega) (.cons (by omega) (.cons (by assumption) (.cons (by trivial) (.cons (by (rw [e2]; omega)) (.cons (by (rw [e2]; omega)) (.cons (by assumption) (.cons (by (rw [e2]; exact er)) .nil))))))))

set_option maxHeartbeats 2000000 in
theorem fm_0 (s : ByteArray) (hs : 28 ≤ s.size) (hz : s.size ≤ 140737488355328) (e20 : IntKind.wrap IntKind.i64 ((s.size : Int) - 20) = (s.size : Int) - 20) (h0 : ¬ (byteAt s 0 = 69)) : PureOk Try.prog 22 ([sA s]) (.nv (.one (.val (.bool false)))) :=
  pure_run GhC_ok Try.func22 (orc := ⟨[false, false, false, false, false, false], []⟩) (obl := [(0 : Int) ≤ (0 : Int),
      (0 : Int) < (↑(ByteArray.size s) : Int),
      (byteAt s (0 : Int) == (69 : Int)) = false,
      false = false,
      false = false,
      false = false,
      false = false,
      false = false,
      false = false]) (by kernel_rfl) (.cons (by trivial) (.cons (by omega) (.cons (by exact beq_eq_false_iff_ne.2 h0) (.cons (by rfl) (.cons (by rfl) (.cons (by rfl) (.cons (by rfl) (.cons (by rfl) (.cons (by rfl) .nil)))))))))

set_option maxHeartbeats 2000000 in
theorem fm_1 (s : ByteArray) (hs : 28 ≤ s.size) (hz : s.size ≤ 140737488355328) (e20 : IntKind.wrap IntKind.i64 ((s.size : Int) - 20) = (s.size : Int) - 20) (h0 : byteAt s 0 = 69) (h1 : ¬ (Int.tmod (byteAt s 1) 4 = 0)) : PureOk Try.prog 22 ([sA s]) (.nv (.one (.val (.bool false)))) :=
  pure_run GhC_ok Try.func22 (orc := ⟨[true, false, false, false, false, false], []⟩) (obl := [(0 : Int) ≤ (0 : Int),
      (0 : Int) < (↑(ByteArray.size s) : Int),
      (byteAt s (0 : Int) == (69 : Int)) = true,
      (0 : Int) ≤ (1 : Int),
      (1 : Int) < (↑(ByteArray.size s) : Int),
      (4 : Int) ≠ (0 : Int),
      (Int.tmod (byteAt s (1 : Int)) (4 : Int) == (0 : Int)) = false,
      false = false,
      false = false,
      false = false,
      false = false,
      false = false]) (by kernel_rfl) (.cons (by trivial) (.cons (by omega) (.cons (by exact beq_iff_eq.2 h0) (.cons (by trivial) (.cons (by omega) (.cons (by trivial) (.cons (by exact beq_eq_false_iff_ne.2 h1) (.cons (by rfl) (.cons (by rfl) (.cons (by rfl) (.cons (by rfl) (.cons (by rfl) .nil))))))))))))

set_option maxHeartbeats 2000000 in
theorem fm_2 (s : ByteArray) (hs : 28 ≤ s.size) (hz : s.size ≤ 140737488355328) (e20 : IntKind.wrap IntKind.i64 ((s.size : Int) - 20) = (s.size : Int) - 20) (h0 : byteAt s 0 = 69) (h1 : Int.tmod (byteAt s 1) 4 = 0) (h2 : ¬ (IntKind.wrap IntKind.i64 (hfZ s 2) = (s.size : Int))) : PureOk Try.prog 22 ([sA s]) (.nv (.one (.val (.bool false)))) :=
  pure_run GhC_ok Try.func22 (orc := ⟨[true, true, false, false, false, false], []⟩) (obl := [(0 : Int) ≤ (0 : Int),
      (0 : Int) < (↑(ByteArray.size s) : Int),
      (byteAt s (0 : Int) == (69 : Int)) = true,
      (0 : Int) ≤ (1 : Int),
      (1 : Int) < (↑(ByteArray.size s) : Int),
      (4 : Int) ≠ (0 : Int),
      (Int.tmod (byteAt s (1 : Int)) (4 : Int) == (0 : Int)) = true,
      (0 : Int) ≤ (2 : Int),
      (2 : Int) + (1 : Int) < (↑(ByteArray.size s) : Int),
      ByteArray.size s ≤ (140737488355328 : Nat),
      (IntKind.wrap IntKind.i64 (hfZ s (2 : Int)) == (↑(ByteArray.size s) : Int)) = false,
      false = false,
      false = false,
      false = false,
      false = false]) (by kernel_rfl) (.cons (by trivial) (.cons (by omega) (.cons (by exact beq_iff_eq.2 h0) (.cons (by trivial) (.cons (by omega) (.cons (by trivial) (.cons (by exact beq_iff_eq.2 h1) (.cons (by trivial) (.cons (by omega) (.cons (by assumption) (.cons (by exact beq_eq_false_iff_ne.2 h2) (.cons (by rfl) (.cons (by rfl) (.cons (by rfl) (.cons (by rfl) .nil)))))))))))))))

set_option maxHeartbeats 2000000 in
theorem fm_3 (s : ByteArray) (hs : 28 ≤ s.size) (hz : s.size ≤ 140737488355328) (e20 : IntKind.wrap IntKind.i64 ((s.size : Int) - 20) = (s.size : Int) - 20) (h0 : byteAt s 0 = 69) (h1 : Int.tmod (byteAt s 1) 4 = 0) (h2 : IntKind.wrap IntKind.i64 (hfZ s 2) = (s.size : Int)) (h3 : ¬ (hfZ s 6 = 0)) : PureOk Try.prog 22 ([sA s]) (.nv (.one (.val (.bool false)))) :=
  pure_run GhC_ok Try.func22 (orc := ⟨[true, true, true, false, false, false], []⟩) (obl := [(0 : Int) ≤ (0 : Int),
      (0 : Int) < (↑(ByteArray.size s) : Int),
      (byteAt s (0 : Int) == (69 : Int)) = true,
      (0 : Int) ≤ (1 : Int),
      (1 : Int) < (↑(ByteArray.size s) : Int),
      (4 : Int) ≠ (0 : Int),
      (Int.tmod (byteAt s (1 : Int)) (4 : Int) == (0 : Int)) = true,
      (0 : Int) ≤ (2 : Int),
      (2 : Int) + (1 : Int) < (↑(ByteArray.size s) : Int),
      ByteArray.size s ≤ (140737488355328 : Nat),
      (IntKind.wrap IntKind.i64 (hfZ s (2 : Int)) == (↑(ByteArray.size s) : Int)) = true,
      (0 : Int) ≤ (6 : Int),
      (6 : Int) + (1 : Int) < (↑(ByteArray.size s) : Int),
      ByteArray.size s ≤ (140737488355328 : Nat),
      (hfZ s (6 : Int) == (0 : Int)) = false,
      false = false,
      false = false,
      false = false]) (by kernel_rfl) (.cons (by trivial) (.cons (by omega) (.cons (by exact beq_iff_eq.2 h0) (.cons (by trivial) (.cons (by omega) (.cons (by trivial) (.cons (by exact beq_iff_eq.2 h1) (.cons (by trivial) (.cons (by omega) (.cons (by assumption) (.cons (by exact beq_iff_eq.2 h2) (.cons (by trivial) (.cons (by omega) (.cons (by assumption) (.cons (by exact beq_eq_false_iff_ne.2 h3) (.cons (by rfl) (.cons (by rfl) (.cons (by rfl) .nil))))))))))))))))))

set_option maxHeartbeats 2000000 in
theorem fm_4 (s : ByteArray) (hs : 28 ≤ s.size) (hz : s.size ≤ 140737488355328) (e20 : IntKind.wrap IntKind.i64 ((s.size : Int) - 20) = (s.size : Int) - 20) (h0 : byteAt s 0 = 69) (h1 : Int.tmod (byteAt s 1) 4 = 0) (h2 : IntKind.wrap IntKind.i64 (hfZ s 2) = (s.size : Int)) (h3 : hfZ s 6 = 0) (h4 : ¬ (byteAt s 9 = 17)) : PureOk Try.prog 22 ([sA s]) (.nv (.one (.val (.bool false)))) :=
  pure_run GhC_ok Try.func22 (orc := ⟨[true, true, true, true, false, false], []⟩) (obl := [(0 : Int) ≤ (0 : Int),
      (0 : Int) < (↑(ByteArray.size s) : Int),
      (byteAt s (0 : Int) == (69 : Int)) = true,
      (0 : Int) ≤ (1 : Int),
      (1 : Int) < (↑(ByteArray.size s) : Int),
      (4 : Int) ≠ (0 : Int),
      (Int.tmod (byteAt s (1 : Int)) (4 : Int) == (0 : Int)) = true,
      (0 : Int) ≤ (2 : Int),
      (2 : Int) + (1 : Int) < (↑(ByteArray.size s) : Int),
      ByteArray.size s ≤ (140737488355328 : Nat),
      (IntKind.wrap IntKind.i64 (hfZ s (2 : Int)) == (↑(ByteArray.size s) : Int)) = true,
      (0 : Int) ≤ (6 : Int),
      (6 : Int) + (1 : Int) < (↑(ByteArray.size s) : Int),
      ByteArray.size s ≤ (140737488355328 : Nat),
      (hfZ s (6 : Int) == (0 : Int)) = true,
      (0 : Int) ≤ (9 : Int),
      (9 : Int) < (↑(ByteArray.size s) : Int),
      (byteAt s (9 : Int) == (17 : Int)) = false,
      false = false,
      false = false]) (by kernel_rfl) (.cons (by trivial) (.cons (by omega) (.cons (by exact beq_iff_eq.2 h0) (.cons (by trivial) (.cons (by omega) (.cons (by trivial) (.cons (by exact beq_iff_eq.2 h1) (.cons (by trivial) (.cons (by omega) (.cons (by assumption) (.cons (by exact beq_iff_eq.2 h2) (.cons (by trivial) (.cons (by omega) (.cons (by assumption) (.cons (by exact beq_iff_eq.2 h3) (.cons (by trivial) (.cons (by omega) (.cons (by exact beq_eq_false_iff_ne.2 h4) (.cons (by rfl) (.cons (by rfl) .nil))))))))))))))))))))

set_option maxHeartbeats 2000000 in
theorem fm_5 (s : ByteArray) (hs : 28 ≤ s.size) (hz : s.size ≤ 140737488355328) (e20 : IntKind.wrap IntKind.i64 ((s.size : Int) - 20) = (s.size : Int) - 20) (h0 : byteAt s 0 = 69) (h1 : Int.tmod (byteAt s 1) 4 = 0) (h2 : IntKind.wrap IntKind.i64 (hfZ s 2) = (s.size : Int)) (h3 : hfZ s 6 = 0) (h4 : byteAt s 9 = 17) (h5 : ¬ (IntKind.wrap IntKind.i64 (hfZ s 24) = (s.size : Int) - 20)) : PureOk Try.prog 22 ([sA s]) (.nv (.one (.val (.bool false)))) :=
  pure_run GhC_ok Try.func22 (orc := ⟨[true, true, true, true, true, false], []⟩) (obl := [(0 : Int) ≤ (0 : Int),
      (0 : Int) < (↑(ByteArray.size s) : Int),
      (byteAt s (0 : Int) == (69 : Int)) = true,
      (0 : Int) ≤ (1 : Int),
      (1 : Int) < (↑(ByteArray.size s) : Int),
      (4 : Int) ≠ (0 : Int),
      (Int.tmod (byteAt s (1 : Int)) (4 : Int) == (0 : Int)) = true,
      (0 : Int) ≤ (2 : Int),
      (2 : Int) + (1 : Int) < (↑(ByteArray.size s) : Int),
      ByteArray.size s ≤ (140737488355328 : Nat),
      (IntKind.wrap IntKind.i64 (hfZ s (2 : Int)) == (↑(ByteArray.size s) : Int)) = true,
      (0 : Int) ≤ (6 : Int),
      (6 : Int) + (1 : Int) < (↑(ByteArray.size s) : Int),
      ByteArray.size s ≤ (140737488355328 : Nat),
      (hfZ s (6 : Int) == (0 : Int)) = true,
      (0 : Int) ≤ (9 : Int),
      (9 : Int) < (↑(ByteArray.size s) : Int),
      (byteAt s (9 : Int) == (17 : Int)) = true,
      (0 : Int) ≤ (24 : Int),
      (24 : Int) + (1 : Int) < (↑(ByteArray.size s) : Int),
      ByteArray.size s ≤ (140737488355328 : Nat),
      (IntKind.wrap IntKind.i64 (hfZ s (24 : Int)) == IntKind.wrap IntKind.i64 ((↑(ByteArray.size s) : Int) - (20 : Int))) = false,
      false = false]) (by kernel_rfl) (.cons (by trivial) (.cons (by omega) (.cons (by exact beq_iff_eq.2 h0) (.cons (by trivial) (.cons (by omega) (.cons (by trivial) (.cons (by exact beq_iff_eq.2 h1) (.cons (by trivial) (.cons (by omega) (.cons (by assumption) (.cons (by exact beq_iff_eq.2 h2) (.cons (by trivial) (.cons (by omega) (.cons (by assumption) (.cons (by exact beq_iff_eq.2 h3) (.cons (by trivial) (.cons (by omega) (.cons (by exact beq_iff_eq.2 h4) (.cons (by trivial) (.cons (by omega) (.cons (by assumption) (.cons (by (rw [e20]; exact beq_eq_false_iff_ne.2 h5)) (.cons (by rfl) .nil)))))))))))))))))))))))

set_option maxHeartbeats 2000000 in
theorem fm_6 (s : ByteArray) (hs : 28 ≤ s.size) (hz : s.size ≤ 140737488355328) (e20 : IntKind.wrap IntKind.i64 ((s.size : Int) - 20) = (s.size : Int) - 20) (h0 : byteAt s 0 = 69) (h1 : Int.tmod (byteAt s 1) 4 = 0) (h2 : IntKind.wrap IntKind.i64 (hfZ s 2) = (s.size : Int)) (h3 : hfZ s 6 = 0) (h4 : byteAt s 9 = 17) (h5 : IntKind.wrap IntKind.i64 (hfZ s 24) = (s.size : Int) - 20) (h6 : ¬ (hfZ s 26 = 0)) : PureOk Try.prog 22 ([sA s]) (.nv (.one (.val (.bool false)))) :=
  pure_run GhC_ok Try.func22 (orc := ⟨[true, true, true, true, true, true], []⟩) (obl := [(0 : Int) ≤ (0 : Int),
      (0 : Int) < (↑(ByteArray.size s) : Int),
      (byteAt s (0 : Int) == (69 : Int)) = true,
      (0 : Int) ≤ (1 : Int),
      (1 : Int) < (↑(ByteArray.size s) : Int),
      (4 : Int) ≠ (0 : Int),
      (Int.tmod (byteAt s (1 : Int)) (4 : Int) == (0 : Int)) = true,
      (0 : Int) ≤ (2 : Int),
      (2 : Int) + (1 : Int) < (↑(ByteArray.size s) : Int),
      ByteArray.size s ≤ (140737488355328 : Nat),
      (IntKind.wrap IntKind.i64 (hfZ s (2 : Int)) == (↑(ByteArray.size s) : Int)) = true,
      (0 : Int) ≤ (6 : Int),
      (6 : Int) + (1 : Int) < (↑(ByteArray.size s) : Int),
      ByteArray.size s ≤ (140737488355328 : Nat),
      (hfZ s (6 : Int) == (0 : Int)) = true,
      (0 : Int) ≤ (9 : Int),
      (9 : Int) < (↑(ByteArray.size s) : Int),
      (byteAt s (9 : Int) == (17 : Int)) = true,
      (0 : Int) ≤ (24 : Int),
      (24 : Int) + (1 : Int) < (↑(ByteArray.size s) : Int),
      ByteArray.size s ≤ (140737488355328 : Nat),
      (IntKind.wrap IntKind.i64 (hfZ s (24 : Int)) == IntKind.wrap IntKind.i64 ((↑(ByteArray.size s) : Int) - (20 : Int))) = true,
      (0 : Int) ≤ (26 : Int),
      (26 : Int) + (1 : Int) < (↑(ByteArray.size s) : Int),
      ByteArray.size s ≤ (140737488355328 : Nat),
      (hfZ s (26 : Int) == (0 : Int)) = false]) (by kernel_rfl) (.cons (by trivial) (.cons (by omega) (.cons (by exact beq_iff_eq.2 h0) (.cons (by trivial) (.cons (by omega) (.cons (by trivial) (.cons (by exact beq_iff_eq.2 h1) (.cons (by trivial) (.cons (by omega) (.cons (by assumption) (.cons (by exact beq_iff_eq.2 h2) (.cons (by trivial) (.cons (by omega) (.cons (by assumption) (.cons (by exact beq_iff_eq.2 h3) (.cons (by trivial) (.cons (by omega) (.cons (by exact beq_iff_eq.2 h4) (.cons (by trivial) (.cons (by omega) (.cons (by assumption) (.cons (by (rw [e20]; exact beq_iff_eq.2 h5)) (.cons (by trivial) (.cons (by omega) (.cons (by assumption) (.cons (by exact beq_eq_false_iff_ne.2 h6) .nil))))))))))))))))))))))))))

set_option maxHeartbeats 2000000 in
theorem fm_7 (s : ByteArray) (hs : 28 ≤ s.size) (hz : s.size ≤ 140737488355328) (e20 : IntKind.wrap IntKind.i64 ((s.size : Int) - 20) = (s.size : Int) - 20) (h0 : byteAt s 0 = 69) (h1 : Int.tmod (byteAt s 1) 4 = 0) (h2 : IntKind.wrap IntKind.i64 (hfZ s 2) = (s.size : Int)) (h3 : hfZ s 6 = 0) (h4 : byteAt s 9 = 17) (h5 : IntKind.wrap IntKind.i64 (hfZ s 24) = (s.size : Int) - 20) (h6 : hfZ s 26 = 0) : PureOk Try.prog 22 ([sA s]) (.nv (.one (.val (.bool true)))) :=
  pure_run GhC_ok Try.func22 (orc := ⟨[true, true, true, true, true, true], []⟩) (obl := [(0 : Int) ≤ (0 : Int),
      (0 : Int) < (↑(ByteArray.size s) : Int),
      (byteAt s (0 : Int) == (69 : Int)) = true,
      (0 : Int) ≤ (1 : Int),
      (1 : Int) < (↑(ByteArray.size s) : Int),
      (4 : Int) ≠ (0 : Int),
      (Int.tmod (byteAt s (1 : Int)) (4 : Int) == (0 : Int)) = true,
      (0 : Int) ≤ (2 : Int),
      (2 : Int) + (1 : Int) < (↑(ByteArray.size s) : Int),
      ByteArray.size s ≤ (140737488355328 : Nat),
      (IntKind.wrap IntKind.i64 (hfZ s (2 : Int)) == (↑(ByteArray.size s) : Int)) = true,
      (0 : Int) ≤ (6 : Int),
      (6 : Int) + (1 : Int) < (↑(ByteArray.size s) : Int),
      ByteArray.size s ≤ (140737488355328 : Nat),
      (hfZ s (6 : Int) == (0 : Int)) = true,
      (0 : Int) ≤ (9 : Int),
      (9 : Int) < (↑(ByteArray.size s) : Int),
      (byteAt s (9 : Int) == (17 : Int)) = true,
      (0 : Int) ≤ (24 : Int),
      (24 : Int) + (1 : Int) < (↑(ByteArray.size s) : Int),
      ByteArray.size s ≤ (140737488355328 : Nat),
      (IntKind.wrap IntKind.i64 (hfZ s (24 : Int)) == IntKind.wrap IntKind.i64 ((↑(ByteArray.size s) : Int) - (20 : Int))) = true,
      (0 : Int) ≤ (26 : Int),
      (26 : Int) + (1 : Int) < (↑(ByteArray.size s) : Int),
      ByteArray.size s ≤ (140737488355328 : Nat),
      (hfZ s (26 : Int) == (0 : Int)) = true]) (by kernel_rfl) (.cons (by trivial) (.cons (by omega) (.cons (by exact beq_iff_eq.2 h0) (.cons (by trivial) (.cons (by omega) (.cons (by trivial) (.cons (by exact beq_iff_eq.2 h1) (.cons (by trivial) (.cons (by omega) (.cons (by assumption) (.cons (by exact beq_iff_eq.2 h2) (.cons (by trivial) (.cons (by omega) (.cons (by assumption) (.cons (by exact beq_iff_eq.2 h3) (.cons (by trivial) (.cons (by omega) (.cons (by exact beq_iff_eq.2 h4) (.cons (by trivial) (.cons (by omega) (.cons (by assumption) (.cons (by (rw [e20]; exact beq_iff_eq.2 h5)) (.cons (by trivial) (.cons (by omega) (.cons (by assumption) (.cons (by exact beq_iff_eq.2 h6) .nil))))))))))))))))))))))))))

set_option maxHeartbeats 2000000 in
theorem cl_f (s : ByteArray) (hb : s.size ≤ 140737488355328) : PureOk Try.prog 25 ([sA s]) (sA s) :=
  pure_run GhC_ok Try.func25 (orc := ⟨[], []⟩) (obl := [ByteArray.size s ≤ (140737488355328 : Nat),
      s = s]) (by kernel_rfl) (.cons (by assumption) (.cons (by rfl) .nil))
end Go.Proofs.Yteehpliloegkgaa
