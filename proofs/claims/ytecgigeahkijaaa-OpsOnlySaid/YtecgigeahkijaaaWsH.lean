/- Runs of Go code, as printed by a program: no condition beyond those that each states. -/
import Derived.Test.YtecgigeahkijaaaWsB
import Derived.Test.YtecgigeahkijaaaChecked
import Derived.KernelRfl
namespace Go.Proofs.Ytecgigeahkijaaa
set_option linter.unusedVariables false
set_option linter.unusedSimpArgs false
set_option maxRecDepth 100000
open Go.RowKit E
set_option maxHeartbeats 2000000 in
theorem cl_f (s : ByteArray) (hb : s.size ≤ 140737488355328) : PureOk Try.prog 43 ([sA s]) (sA s) :=
  pure_run GbC_ok Try.func43 (orc := ⟨[], []⟩) (obl := [ByteArray.size s ≤ (140737488355328 : Nat),
      s = s]) (by kernel_rfl) (.cons (by assumption) (.cons (by rfl) .nil))

set_option maxHeartbeats 2000000 in
theorem tx_e (s : ByteArray) (hz : s.size ≤ 140737488355328) (he : (numZ s).2.2 ≠ 0) : PureOk Try.prog 42 ([sA s]) (.tup [.one (.val (.string ⟨#[]⟩)), .one (.val (.int .i64 0)), .one (.val (.int .i64 (numZ s).2.2))]) :=
  pure_run GbC_ok Try.func42 (orc := ⟨[true], []⟩) (obl := [ByteArray.size s ≤ (140737488355328 : Nat),
      (Prod.snd (Prod.snd (numZ s)) != (0 : Int)) = true,
      (ByteArray.mk #[]) = (ByteArray.mk #[]),
      (0 : Int) = (0 : Int),
      Prod.snd (Prod.snd (numZ s)) = Prod.snd (Prod.snd (numZ s))]) (by kernel_rfl) (.cons (by assumption) (.cons (by exact bne_iff_ne.2 (by omega)) (.cons (by rfl) (.cons (by rfl) (.cons (by rfl) .nil)))))

set_option maxHeartbeats 2000000 in
theorem tx_l (s : ByteArray) (hz : s.size ≤ 140737488355328) (he : (numZ s).2.2 = 0) (hn : 65535 < (numZ s).1) : PureOk Try.prog 42 ([sA s]) (.tup [.one (.val (.string ⟨#[]⟩)), .one (.val (.int .i64 0)), .one (.val (.int .i64 4))]) :=
  pure_run GbC_ok Try.func42 (orc := ⟨[false, true], []⟩) (obl := [ByteArray.size s ≤ (140737488355328 : Nat),
      (Prod.snd (Prod.snd (numZ s)) != (0 : Int)) = false,
      decide (Prod.fst (numZ s) > (65535 : Int)) = true,
      (ByteArray.mk #[]) = (ByteArray.mk #[]),
      (0 : Int) = (0 : Int),
      (4 : Int) = (4 : Int)]) (by kernel_rfl) (.cons (by assumption) (.cons (by exact bne_eq_false_iff_eq.2 (by omega)) (.cons (by exact decide_eq_true (by omega)) (.cons (by rfl) (.cons (by rfl) (.cons (by rfl) .nil))))))

set_option maxHeartbeats 2000000 in
theorem tx_s (s : ByteArray) (hz : s.size ≤ 140737488355328) (he : (numZ s).2.2 = 0) (hn : ¬ 65535 < (numZ s).1) (h0 : 0 ≤ (numZ s).1) (ha : 0 ≤ (numZ s).2.1) (hb : (numZ s).2.1 ≤ 10) (hl : (s.size : Int) - (numZ s).2.1 < (numZ s).1) (ew : IntKind.wrap IntKind.i64 (numZ s).1 = (numZ s).1) (ew2 : IntKind.wrap IntKind.i64 ((s.size : Int) - (numZ s).2.1) = (s.size : Int) - (numZ s).2.1) : PureOk Try.prog 42 ([sA s]) (.tup [.one (.val (.string ⟨#[]⟩)), .one (.val (.int .i64 0)), .one (.val (.int .i64 2))]) :=
  pure_run GbC_ok Try.func42 (orc := ⟨[false, false, true], []⟩) (obl := [ByteArray.size s ≤ (140737488355328 : Nat),
      (Prod.snd (Prod.snd (numZ s)) != (0 : Int)) = false,
      decide (Prod.fst (numZ s) > (65535 : Int)) = false,
      decide (IntKind.wrap IntKind.i64 ((↑(ByteArray.size s) : Int) - Prod.fst (Prod.snd (numZ s))) < IntKind.wrap IntKind.i64 (Prod.fst (numZ s))) = true,
      (ByteArray.mk #[]) = (ByteArray.mk #[]),
      (0 : Int) = (0 : Int),
      (2 : Int) = (2 : Int)]) (by kernel_rfl) (.cons (by assumption) (.cons (by exact bne_eq_false_iff_eq.2 (by omega)) (.cons (by exact decide_eq_false (by omega)) (.cons (by (rw [ew, ew2]; exact decide_eq_true hl)) (.cons (by rfl) (.cons (by rfl) (.cons (by rfl) .nil)))))))
end Go.Proofs.Ytecgigeahkijaaa

/- strings.Clone as a specification. No condition. -/
namespace Go.Proofs.Ytecgigeahkijaaa
set_option linter.unusedVariables false
set_option linter.unusedSimpArgs false
open Go.RowKit E
theorem spClone : SpOk Try.prog 43 (pureS gScl) := pureS_ok (by
  intro args r obl h ho
  unfold gScl at h
  split at h
  · rename_i s
    simp only [Option.some.injEq, Prod.mk.injEq] at h
    obtain ⟨rfl, rfl⟩ := h
    exact ⟨rfl, rfl, cl_f s ho.1⟩
  · cases h)
theorem ext_size {s : ByteArray} {a b : Nat} (h : s.size ≤ 140737488355328) : (s.extract a b).size ≤ 140737488355328 := by
  rw [ByteArray.size_extract]; omega
def GbD : List (FuncId × Sp) := (43, pureS gScl) :: GbC
theorem GbD_ok : CtxOk Try.prog GbD := ctx_cons (enter_of Try.func43 (by kernel_rfl) (by kernel_rfl)) spClone GbC_ok
end Go.Proofs.Ytecgigeahkijaaa

/- Runs of Go code, as printed by a program: no condition beyond those that each states. -/
namespace Go.Proofs.Ytecgigeahkijaaa
set_option linter.unusedVariables false
set_option linter.unusedSimpArgs false
set_option maxRecDepth 100000
open Go.RowKit E
set_option maxHeartbeats 2000000 in
theorem tx_k (s : ByteArray) (hz : s.size ≤ 140737488355328) (he : (numZ s).2.2 = 0) (hn : ¬ 65535 < (numZ s).1) (h0 : 0 ≤ (numZ s).1) (ha : 0 ≤ (numZ s).2.1) (hb : (numZ s).2.1 ≤ 10) (hl : ¬ (s.size : Int) - (numZ s).2.1 < (numZ s).1) (ew : IntKind.wrap IntKind.i64 (numZ s).1 = (numZ s).1) (ew2 : IntKind.wrap IntKind.i64 ((s.size : Int) - (numZ s).2.1) = (s.size : Int) - (numZ s).2.1) (ew3 : IntKind.wrap IntKind.i64 ((numZ s).2.1 + (numZ s).1) = (numZ s).2.1 + (numZ s).1) : PureOk Try.prog 42 ([sA s]) (.tup [.one (.val (.string (s.extract (numZ s).2.1.toNat ((numZ s).2.1 + (numZ s).1).toNat))), .one (.val (.int .i64 ((numZ s).2.1 + (numZ s).1))), .one (.val (.int .i64 0))]) :=
  pure_run GbD_ok Try.func42 (orc := ⟨[false, false, false], []⟩) (obl := [ByteArray.size s ≤ (140737488355328 : Nat),
      (Prod.snd (Prod.snd (numZ s)) != (0 : Int)) = false,
      decide (Prod.fst (numZ s) > (65535 : Int)) = false,
      decide (IntKind.wrap IntKind.i64 ((↑(ByteArray.size s) : Int) - Prod.fst (Prod.snd (numZ s))) < IntKind.wrap IntKind.i64 (Prod.fst (numZ s))) = false,
      (0 : Int) ≤ Option.getD (some (Prod.snd (IntKind.i64, Prod.fst (Prod.snd (numZ s))))) (0 : Int),
      Option.getD (some (Prod.snd (IntKind.i64, Prod.fst (Prod.snd (numZ s))))) (0 : Int) ≤ Option.getD (some (Prod.snd (IntKind.i64, IntKind.wrap IntKind.i64 (Prod.fst (Prod.snd (numZ s)) + IntKind.wrap IntKind.i64 (Prod.fst (numZ s)))))) (↑(ByteArray.size s) : Int),
      Option.getD (some (Prod.snd (IntKind.i64, IntKind.wrap IntKind.i64 (Prod.fst (Prod.snd (numZ s)) + IntKind.wrap IntKind.i64 (Prod.fst (numZ s)))))) (↑(ByteArray.size s) : Int) ≤ (↑(ByteArray.size s) : Int),
      ByteArray.size (Prod.fst (ByteArray.extract s (Int.toNat (Option.getD (some (Prod.snd (IntKind.i64, Prod.fst (Prod.snd (numZ s))))) (0 : Int))) (Int.toNat (Option.getD (some (Prod.snd (IntKind.i64, IntKind.wrap IntKind.i64 (Prod.fst (Prod.snd (numZ s)) + IntKind.wrap IntKind.i64 (Prod.fst (numZ s)))))) (↑(ByteArray.size s) : Int))), [(0 : Int) ≤ Option.getD (some (Prod.snd (IntKind.i64, Prod.fst (Prod.snd (numZ s))))) (0 : Int), Option.getD (some (Prod.snd (IntKind.i64, Prod.fst (Prod.snd (numZ s))))) (0 : Int) ≤ Option.getD (some (Prod.snd (IntKind.i64, IntKind.wrap IntKind.i64 (Prod.fst (Prod.snd (numZ s)) + IntKind.wrap IntKind.i64 (Prod.fst (numZ s)))))) (↑(ByteArray.size s) : Int), Option.getD (some (Prod.snd (IntKind.i64, IntKind.wrap IntKind.i64 (Prod.fst (Prod.snd (numZ s)) + IntKind.wrap IntKind.i64 (Prod.fst (numZ s)))))) (↑(ByteArray.size s) : Int) ≤ (↑(ByteArray.size s) : Int)])) ≤ (140737488355328 : Nat),
      Prod.fst (ByteArray.extract s (Int.toNat (Option.getD (some (Prod.snd (IntKind.i64, Prod.fst (Prod.snd (numZ s))))) (0 : Int))) (Int.toNat (Option.getD (some (Prod.snd (IntKind.i64, IntKind.wrap IntKind.i64 (Prod.fst (Prod.snd (numZ s)) + IntKind.wrap IntKind.i64 (Prod.fst (numZ s)))))) (↑(ByteArray.size s) : Int))), [(0 : Int) ≤ Option.getD (some (Prod.snd (IntKind.i64, Prod.fst (Prod.snd (numZ s))))) (0 : Int), Option.getD (some (Prod.snd (IntKind.i64, Prod.fst (Prod.snd (numZ s))))) (0 : Int) ≤ Option.getD (some (Prod.snd (IntKind.i64, IntKind.wrap IntKind.i64 (Prod.fst (Prod.snd (numZ s)) + IntKind.wrap IntKind.i64 (Prod.fst (numZ s)))))) (↑(ByteArray.size s) : Int), Option.getD (some (Prod.snd (IntKind.i64, IntKind.wrap IntKind.i64 (Prod.fst (Prod.snd (numZ s)) + IntKind.wrap IntKind.i64 (Prod.fst (numZ s)))))) (↑(ByteArray.size s) : Int) ≤ (↑(ByteArray.size s) : Int)]) = ByteArray.extract s (Int.toNat (Prod.fst (Prod.snd (numZ s)))) (Int.toNat (Prod.fst (Prod.snd (numZ s)) + Prod.fst (numZ s))),
      IntKind.wrap IntKind.i64 (Prod.fst (Prod.snd (numZ s)) + IntKind.wrap IntKind.i64 (Prod.fst (numZ s))) = Prod.fst (Prod.snd (numZ s)) + Prod.fst (numZ s),
      (0 : Int) = (0 : Int)]) (by kernel_rfl) (.cons (by assumption) (.cons (by exact bne_eq_false_iff_eq.2 (by omega)) (.cons (by exact decide_eq_false (by omega)) (.cons (by (rw [ew, ew2]; exact decide_eq_false hl)) (.cons (by assumption) (.cons (by (simp only [Option.getD, ew, ew3]; omega)) (.cons (by (simp only [Option.getD, ew, ew3]; omega)) (.cons (by exact ext_size hz) (.cons (by (simp [*]; done)) (.cons (by (rw [ew, ew3])) (.cons (by rfl) .nil)))))))))))
end Go.Proofs.Ytecgigeahkijaaa

/- wire: text as a specification. No condition. -/
namespace Go.Proofs.Ytecgigeahkijaaa
set_option linter.unusedVariables false
set_option linter.unusedSimpArgs false
open Go.RowKit E
theorem pureText (s : ByteArray) (hz : s.size ≤ 140737488355328) :
    PureOk Try.prog 42 [sA s] (.tup [.one (.val (.string (txtZ s).1)), .one (.val (.int .i64 (txtZ s).2.1)), .one (.val (.int .i64 (txtZ s).2.2))]) := by
  have hn := numZ_bd s
  unfold txtZ
  by_cases e : (numZ s).2.2 = 0
  · obtain ⟨a1, a2, a3, a4, a5⟩ := hn.2.2 e
    rw [if_neg (by omega)]
    by_cases l : 65535 < (numZ s).1
    · rw [if_pos l]; exact tx_l s hz e l
    · rw [if_neg l]
      have ew := w64 (a := (numZ s).1) (b := (numZ s).1) rfl (by omega)
      have ew2 := w64 (a := (s.size : Int) - (numZ s).2.1) (b := (s.size : Int) - (numZ s).2.1) rfl (by omega)
      by_cases q : (s.size : Int) - (numZ s).2.1 < (numZ s).1
      · rw [if_pos q]; exact tx_s s hz e l a1 (by omega) a5 q ew ew2
      · rw [if_neg q]; exact tx_k s hz e l a1 (by omega) a5 q ew ew2 (w64 rfl (by omega))
  · rw [if_pos e]; exact tx_e s hz e
def gText : List SV → Option (SV × List Prop)
  | [.nv (.one (.val (.string s)))] => some (.tup [.one (.val (.string (txtZ s).1)), .one (.val (.int .i64 (txtZ s).2.1)), .one (.val (.int .i64 (txtZ s).2.2))], [s.size ≤ 140737488355328])
  | _ => none
theorem spText : SpOk Try.prog 42 (pureS gText) := pureS_ok (by
  intro args r obl h ho
  unfold gText at h
  split at h
  · simp only [Option.some.injEq, Prod.mk.injEq] at h
    obtain ⟨rfl, rfl⟩ := h
    exact ⟨rfl, rfl, pureText _ ho.1⟩
  · cases h)
def GbE : List (FuncId × Sp) := (42, pureS gText) :: GbD
theorem GbE_ok : CtxOk Try.prog GbE := ctx_cons (enter_of Try.func42 (by kernel_rfl) (by kernel_rfl)) spText GbD_ok
end Go.Proofs.Ytecgigeahkijaaa

/- Runs of Go code, as printed by a program: no condition beyond those that each states. -/
namespace Go.Proofs.Ytecgigeahkijaaa
set_option linter.unusedVariables false
set_option linter.unusedSimpArgs false
set_option maxRecDepth 100000
open Go.RowKit E
set_option maxHeartbeats 2000000 in
theorem ow_w (s : ByteArray) (k : Int) (hz : s.size ≤ 140737488355328) (hw : 0 < widthZ k) (hw8 : widthZ k ≤ 8) : PureOk Try.prog 30 ([sA s, iA k]) (.tup [.agg [.val (.int .i64 k), .val (.int .u64 (fixV s (widthZ k))), .val (.string ⟨#[]⟩)], .one (.val (.int .i64 (if (s.size : Int) < widthZ k then 0 else widthZ k))), .one (.val (.int .i64 (if (s.size : Int) < widthZ k then 2 else 0)))]) :=
  pure_run GbE_ok Try.func30 (orc := ⟨[true], []⟩) (obl := [decide (widthZ k > (0 : Int)) = true,
      (0 : Int) ≤ widthZ k,
      widthZ k ≤ (8 : Int),
      ByteArray.size s ≤ (140737488355328 : Nat),
      k = k,
      fixV s (widthZ k) = fixV s (widthZ k),
      (ByteArray.mk #[]) = (ByteArray.mk #[]),
      (if (↑(ByteArray.size s) : Int) < widthZ k then (0 : Int) else widthZ k) = if (↑(ByteArray.size s) : Int) < widthZ k then (0 : Int) else widthZ k,
      (if (↑(ByteArray.size s) : Int) < widthZ k then (2 : Int) else (0 : Int)) = if (↑(ByteArray.size s) : Int) < widthZ k then (2 : Int) else (0 : Int)]) (by kernel_rfl) (.cons (by exact decide_eq_true (by omega)) (.cons (by omega) (.cons (by assumption) (.cons (by assumption) (.cons (by rfl) (.cons (by rfl) (.cons (by rfl) (.cons (by rfl) (.cons (by rfl) .nil)))))))))

set_option maxHeartbeats 2000000 in
theorem ow_5 (s : ByteArray) (k : Int) (hz : s.size ≤ 140737488355328) (hw : ¬ 0 < widthZ k) (h5 : k = 5) : PureOk Try.prog 30 ([sA s, iA k]) (.tup [.agg [.val (.int .i64 k), .val (.int .u64 (numZ s).1), .val (.string ⟨#[]⟩)], .one (.val (.int .i64 (numZ s).2.1)), .one (.val (.int .i64 (numZ s).2.2))]) :=
  pure_run GbE_ok Try.func30 (orc := ⟨[false, true], []⟩) (obl := [decide (widthZ k > (0 : Int)) = false,
      (k == (5 : Int)) = true,
      ByteArray.size s ≤ (140737488355328 : Nat),
      k = k,
      Prod.fst (numZ s) = Prod.fst (numZ s),
      (ByteArray.mk #[]) = (ByteArray.mk #[]),
      Prod.fst (Prod.snd (numZ s)) = Prod.fst (Prod.snd (numZ s)),
      Prod.snd (Prod.snd (numZ s)) = Prod.snd (Prod.snd (numZ s))]) (by kernel_rfl) (.cons (by exact decide_eq_false (by omega)) (.cons (by exact decide_eq_true (by omega)) (.cons (by assumption) (.cons (by rfl) (.cons (by rfl) (.cons (by rfl) (.cons (by rfl) (.cons (by rfl) .nil))))))))

set_option maxHeartbeats 2000000 in
theorem ow_6 (s : ByteArray) (k : Int) (hz : s.size ≤ 140737488355328) (hw : ¬ 0 < widthZ k) (h6 : k = 6) : PureOk Try.prog 30 ([sA s, iA k]) (.tup [.agg [.val (.int .i64 k), .val (.int .u64 0), .val (.string (txtZ s).1)], .one (.val (.int .i64 (txtZ s).2.1)), .one (.val (.int .i64 (txtZ s).2.2))]) :=
  pure_run GbE_ok Try.func30 (orc := ⟨[false, false, true], []⟩) (obl := [decide (widthZ k > (0 : Int)) = false,
      (k == (5 : Int)) = false,
      (k == (6 : Int)) = true,
      ByteArray.size s ≤ (140737488355328 : Nat),
      k = k,
      (0 : Int) = (0 : Int),
      Prod.fst (txtZ s) = Prod.fst (txtZ s),
      Prod.fst (Prod.snd (txtZ s)) = Prod.fst (Prod.snd (txtZ s)),
      Prod.snd (Prod.snd (txtZ s)) = Prod.snd (Prod.snd (txtZ s))]) (by kernel_rfl) (.cons (by exact decide_eq_false (by omega)) (.cons (by exact decide_eq_false (by omega)) (.cons (by exact decide_eq_true (by omega)) (.cons (by assumption) (.cons (by rfl) (.cons (by rfl) (.cons (by rfl) (.cons (by rfl) (.cons (by rfl) .nil)))))))))

set_option maxHeartbeats 2000000 in
theorem ow_x (s : ByteArray) (k : Int) (hz : s.size ≤ 140737488355328) (hw : ¬ 0 < widthZ k) (h5 : k ≠ 5) (h6 : k ≠ 6) : PureOk Try.prog 30 ([sA s, iA k]) (.tup [.agg [.val (.int .i64 k), .val (.int .u64 0), .val (.string ⟨#[]⟩)], .one (.val (.int .i64 0)), .one (.val (.int .i64 6))]) :=
  pure_run GbE_ok Try.func30 (orc := ⟨[false, false, false], []⟩) (obl := [decide (widthZ k > (0 : Int)) = false,
      (k == (5 : Int)) = false,
      (k == (6 : Int)) = false,
      k = k,
      (0 : Int) = (0 : Int),
      (ByteArray.mk #[]) = (ByteArray.mk #[]),
      (0 : Int) = (0 : Int),
      (6 : Int) = (6 : Int)]) (by kernel_rfl) (.cons (by exact decide_eq_false (by omega)) (.cons (by exact decide_eq_false (by omega)) (.cons (by exact decide_eq_false (by omega)) (.cons (by rfl) (.cons (by rfl) (.cons (by rfl) (.cons (by rfl) (.cons (by rfl) .nil))))))))

set_option maxHeartbeats 2000000 in
theorem rd_x1 (s : ByteArray) (k : Int) (h : k < 1) : PureOk Try.prog 25 ([sA s, iA k]) (.tup [.agg [.val (.int .i64 k), .val (.int .u64 0), .val (.string ⟨#[]⟩)], .one (.val (.int .i64 0)), .one (.val (.int .i64 6))]) :=
  pure_run GbE_ok Try.func25 (orc := ⟨[true, true], []⟩) (obl := [decide (k < (1 : Int)) = true,
      true = true,
      k = k,
      (0 : Int) = (0 : Int),
      (ByteArray.mk #[]) = (ByteArray.mk #[]),
      (0 : Int) = (0 : Int),
      (6 : Int) = (6 : Int)]) (by kernel_rfl) (.cons (by exact decide_eq_true (by omega)) (.cons (by rfl) (.cons (by rfl) (.cons (by rfl) (.cons (by rfl) (.cons (by rfl) (.cons (by rfl) .nil)))))))

set_option maxHeartbeats 2000000 in
theorem rd_x2 (s : ByteArray) (k : Int) (h : 6 < k) : PureOk Try.prog 25 ([sA s, iA k]) (.tup [.agg [.val (.int .i64 k), .val (.int .u64 0), .val (.string ⟨#[]⟩)], .one (.val (.int .i64 0)), .one (.val (.int .i64 6))]) :=
  pure_run GbE_ok Try.func25 (orc := ⟨[false, true], []⟩) (obl := [decide (k < (1 : Int)) = false,
      decide (k > (6 : Int)) = true,
      k = k,
      (0 : Int) = (0 : Int),
      (ByteArray.mk #[]) = (ByteArray.mk #[]),
      (0 : Int) = (0 : Int),
      (6 : Int) = (6 : Int)]) (by kernel_rfl) (.cons (by exact decide_eq_false (by omega)) (.cons (by exact decide_eq_true (by omega)) (.cons (by rfl) (.cons (by rfl) (.cons (by rfl) (.cons (by rfl) (.cons (by rfl) .nil)))))))

set_option maxHeartbeats 2000000 in
theorem rd_s (s : ByteArray) (k : Int) (h1 : 1 ≤ k) (h6 : k ≤ 6) (h : (s.size : Int) < widthZ k) : PureOk Try.prog 25 ([sA s, iA k]) (.tup [.agg [.val (.int .i64 k), .val (.int .u64 0), .val (.string ⟨#[]⟩)], .one (.val (.int .i64 0)), .one (.val (.int .i64 2))]) :=
  pure_run GbE_ok Try.func25 (orc := ⟨[false, false, true], []⟩) (obl := [decide (k < (1 : Int)) = false,
      decide (k > (6 : Int)) = false,
      decide ((↑(ByteArray.size s) : Int) < widthZ k) = true,
      k = k,
      (0 : Int) = (0 : Int),
      (ByteArray.mk #[]) = (ByteArray.mk #[]),
      (0 : Int) = (0 : Int),
      (2 : Int) = (2 : Int)]) (by kernel_rfl) (.cons (by exact decide_eq_false (by omega)) (.cons (by exact decide_eq_false (by omega)) (.cons (by exact decide_eq_true (by omega)) (.cons (by rfl) (.cons (by rfl) (.cons (by rfl) (.cons (by rfl) (.cons (by rfl) .nil))))))))

set_option maxHeartbeats 2000000 in
theorem rd_n (s : ByteArray) (k w x y : Int) (i : Nat) (hi : (i : Int) < w) (hs : w ≤ s.size) (hz : s.size ≤ 140737488355328) (ey : IntKind.wrap IntKind.u64 (IntKind.wrap IntKind.u64 (x * 256) + IntKind.wrap IntKind.u64 (byteAt s (i : Int))) = y) : CodeOk Try.prog 0 (loopOf Try.f25 0) (mkSt 88 [(0, sA s), (1, iA k), (4, .nv (.one (.ptr 0 0))), (7, .nv (.one (.ptr 1 0))), (8, iA w), (9, iA i)] [.box 47 [.val (.int .i64 0), .val (.int .u64 0), .val (.string ⟨#[]⟩)], .box 47 [.val (.int .i64 k), .val (.int .u64 x), .val (.string ⟨#[]⟩)]]) .normal (mkSt 88 [(0, sA s), (1, iA k), (4, .nv (.one (.ptr 0 0))), (7, .nv (.one (.ptr 1 0))), (8, iA w), (9, iA (i + 1 : Nat))] [.box 47 [.val (.int .i64 0), .val (.int .u64 0), .val (.string ⟨#[]⟩)], .box 47 [.val (.int .i64 k), .val (.int .u64 y), .val (.string ⟨#[]⟩)]]) :=
  code_run GbE_ok (orc := ⟨[true], []⟩) (obl := [decide ((↑i : Int) < w) = true,
      (0 : Int) ≤ (↑i : Int),
      (↑i : Int) < (↑(ByteArray.size s) : Int),
      s = s,
      k = k,
      (0 : Nat) = (0 : Nat),
      (0 : Nat) = (0 : Nat),
      w = w,
      IntKind.wrap IntKind.i64 ((↑i : Int) + (1 : Int)) = (↑(i + (1 : Nat)) : Int),
      (0 : Int) = (0 : Int),
      (0 : Int) = (0 : Int),
      (ByteArray.mk #[]) = (ByteArray.mk #[]),
      k = k,
      IntKind.wrap IntKind.u64 (IntKind.wrap IntKind.u64 (x * (256 : Int)) + IntKind.wrap IntKind.u64 (byteAt s (↑i : Int))) = y,
      (ByteArray.mk #[]) = (ByteArray.mk #[])]) (by kernel_rfl) (.cons (by exact decide_eq_true (by omega)) (.cons (by omega) (.cons (by omega) (.cons (by rfl) (.cons (by rfl) (.cons (by rfl) (.cons (by rfl) (.cons (by rfl) (.cons (by exact w64 (by omega) (by omega)) (.cons (by rfl) (.cons (by rfl) (.cons (by rfl) (.cons (by rfl) (.cons (by assumption) (.cons (by rfl) .nil))))))))))))))) (Nat.le_of_ble_eq_true (by kernel_rfl))

set_option maxHeartbeats 2000000 in
theorem rd_e (s : ByteArray) (k w x : Int) : CodeOk Try.prog 0 (loopOf Try.f25 0) (mkSt 88 [(0, sA s), (1, iA k), (4, .nv (.one (.ptr 0 0))), (7, .nv (.one (.ptr 1 0))), (8, iA w), (9, iA w)] [.box 47 [.val (.int .i64 0), .val (.int .u64 0), .val (.string ⟨#[]⟩)], .box 47 [.val (.int .i64 k), .val (.int .u64 x), .val (.string ⟨#[]⟩)]]) (.exit 0) (mkSt 88 [(0, sA s), (1, iA k), (4, .nv (.one (.ptr 0 0))), (7, .nv (.one (.ptr 1 0))), (8, iA w)] [.box 47 [.val (.int .i64 0), .val (.int .u64 0), .val (.string ⟨#[]⟩)], .box 47 [.val (.int .i64 k), .val (.int .u64 x), .val (.string ⟨#[]⟩)]]) :=
  code_run GbE_ok (orc := ⟨[false], []⟩) (obl := [decide (w < w) = false,
      s = s,
      k = k,
      (0 : Nat) = (0 : Nat),
      (0 : Nat) = (0 : Nat),
      w = w,
      (0 : Int) = (0 : Int),
      (0 : Int) = (0 : Int),
      (ByteArray.mk #[]) = (ByteArray.mk #[]),
      k = k,
      x = x,
      (ByteArray.mk #[]) = (ByteArray.mk #[])]) (by kernel_rfl) (.cons (by exact decide_eq_false (by omega)) (.cons (by rfl) (.cons (by rfl) (.cons (by rfl) (.cons (by rfl) (.cons (by rfl) (.cons (by rfl) (.cons (by rfl) (.cons (by rfl) (.cons (by rfl) (.cons (by rfl) (.cons (by rfl) .nil)))))))))))) (Nat.le_of_ble_eq_true (by kernel_rfl))

set_option maxHeartbeats 2000000 in
theorem rd_w (s : ByteArray) (k w x : Int) (h1 : 1 ≤ k) (h6 : k ≤ 6) (hw : widthZ k = w) (hw0 : 0 < w) (h : ¬ (s.size : Int) < w) (l0 : CodeOk Try.prog 0 (.loop (loopOf Try.f25 0)) (mkSt 88 [(0, sA s), (1, iA k), (4, .nv (.one (.ptr 0 0))), (7, .nv (.one (.ptr 1 0))), (8, iA w), (9, iA (0 : Nat))] [.box 47 [.val (.int .i64 0), .val (.int .u64 0), .val (.string ⟨#[]⟩)], .box 47 [.val (.int .i64 k), .val (.int .u64 0), .val (.string ⟨#[]⟩)]]) (.exit 0) (mkSt 88 [(0, sA s), (1, iA k), (4, .nv (.one (.ptr 0 0))), (7, .nv (.one (.ptr 1 0))), (8, iA w)] [.box 47 [.val (.int .i64 0), .val (.int .u64 0), .val (.string ⟨#[]⟩)], .box 47 [.val (.int .i64 k), .val (.int .u64 x), .val (.string ⟨#[]⟩)]])) : PureOk Try.prog 25 ([sA s, iA k]) (.tup [.agg [.val (.int .i64 k), .val (.int .u64 x), .val (.string ⟨#[]⟩)], .one (.val (.int .i64 w)), .one (.val (.int .i64 0))]) :=
  pure_run GbE_ok Try.func25 (orc := ⟨[false, false, false, true], [⟨mkSt 88 [(0, sA s), (1, iA k), (4, .nv (.one (.ptr 0 0))), (7, .nv (.one (.ptr 1 0))), (8, iA w), (9, iA (0 : Nat))] [.box 47 [.val (.int .i64 0), .val (.int .u64 0), .val (.string ⟨#[]⟩)], .box 47 [.val (.int .i64 k), .val (.int .u64 0), .val (.string ⟨#[]⟩)]], .exit 0, mkSt 88 [(0, sA s), (1, iA k), (4, .nv (.one (.ptr 0 0))), (7, .nv (.one (.ptr 1 0))), (8, iA w)] [.box 47 [.val (.int .i64 0), .val (.int .u64 0), .val (.string ⟨#[]⟩)], .box 47 [.val (.int .i64 k), .val (.int .u64 x), .val (.string ⟨#[]⟩)]]⟩]⟩) (obl := [decide (k < (1 : Int)) = false,
      decide (k > (6 : Int)) = false,
      decide ((↑(ByteArray.size s) : Int) < widthZ k) = false,
      s = s,
      k = k,
      (0 : Nat) = (0 : Nat),
      (0 : Nat) = (0 : Nat),
      widthZ k = w,
      (0 : Int) = (↑(0 : Nat) : Int),
      (0 : Int) = (0 : Int),
      (0 : Int) = (0 : Int),
      (ByteArray.mk #[]) = (ByteArray.mk #[]),
      k = k,
      (0 : Int) = (0 : Int),
      (ByteArray.mk #[]) = (ByteArray.mk #[]),
      (0 : Nat) ≤ (2 : Nat),
      CodeOk Try.prog (0 : Nat) (Code.loop (loopOf Try.f25 (0 : Nat))) (mkSt (88 : Nat) [((0 : Nat), sA s), ((1 : Nat), iA k), ((4 : Nat), SV.nv (NV.one (At.ptr (0 : Nat) (0 : Nat)))), ((7 : Nat), SV.nv (NV.one (At.ptr (1 : Nat) (0 : Nat)))), ((8 : Nat), iA w), ((9 : Nat), iA (↑(0 : Nat) : Int))] [Seg.box (47 : TypeId) [At.val (Value.int IntKind.i64 (0 : Int)), At.val (Value.int IntKind.u64 (0 : Int)), At.val (Value.string (ByteArray.mk #[]))], Seg.box (47 : TypeId) [At.val (Value.int IntKind.i64 k), At.val (Value.int IntKind.u64 (0 : Int)), At.val (Value.string (ByteArray.mk #[]))]]) (Ex.exit (0 : Nat)) (mkSt (88 : Nat) [((0 : Nat), sA s), ((1 : Nat), iA k), ((4 : Nat), SV.nv (NV.one (At.ptr (0 : Nat) (0 : Nat)))), ((7 : Nat), SV.nv (NV.one (At.ptr (1 : Nat) (0 : Nat)))), ((8 : Nat), iA w)] [Seg.box (47 : TypeId) [At.val (Value.int IntKind.i64 (0 : Int)), At.val (Value.int IntKind.u64 (0 : Int)), At.val (Value.string (ByteArray.mk #[]))], Seg.box (47 : TypeId) [At.val (Value.int IntKind.i64 k), At.val (Value.int IntKind.u64 x), At.val (Value.string (ByteArray.mk #[]))]]),
      decide (w > (0 : Int)) = true,
      k = k,
      x = x,
      (ByteArray.mk #[]) = (ByteArray.mk #[]),
      w = w,
      (0 : Int) = (0 : Int)]) (by kernel_rfl) (.cons (by exact decide_eq_false (by omega)) (.cons (by exact decide_eq_false (by omega)) (.cons (by exact decide_eq_false (by omega)) (.cons (by rfl) (.cons (by rfl) (.cons (by rfl) (.cons (by rfl) (.cons (by assumption) (.cons (by rfl) (.cons (by rfl) (.cons (by rfl) (.cons (by rfl) (.cons (by rfl) (.cons (by rfl) (.cons (by rfl) (.cons (by trivial) (.cons (by assumption) (.cons (by exact decide_eq_true (by omega)) (.cons (by rfl) (.cons (by rfl) (.cons (by rfl) (.cons (by rfl) (.cons (by rfl) .nil)))))))))))))))))))))))

set_option maxHeartbeats 2000000 in
theorem rd_5e (s : ByteArray) (hz : s.size ≤ 140737488355328) (he : (numZ s).2.2 ≠ 0) : PureOk Try.prog 25 ([sA s, iA 5]) (.tup [.agg [.val (.int .i64 5), .val (.int .u64 (numZ s).1), .val (.string ⟨#[]⟩)], .one (.val (.int .i64 (numZ s).2.1)), .one (.val (.int .i64 (numZ s).2.2))]) :=
  pure_run GbE_ok Try.func25 (orc := ⟨[false, false, false, false, false, true, true], [unroll 1]⟩) (obl := [decide ((5 : Int) < (1 : Int)) = false,
      decide ((5 : Int) > (6 : Int)) = false,
      decide ((↑(ByteArray.size s) : Int) < widthZ (5 : Int)) = false,
      decide ((0 : Int) < widthZ (5 : Int)) = false,
      decide (widthZ (5 : Int) > (0 : Int)) = false,
      ByteArray.size s ≤ (140737488355328 : Nat),
      (Prod.snd (Prod.snd (numZ s)) != (0 : Int)) = true,
      true = true,
      (5 : Int) = (5 : Int),
      Prod.fst (numZ s) = Prod.fst (numZ s),
      (ByteArray.mk #[]) = (ByteArray.mk #[]),
      Prod.fst (Prod.snd (numZ s)) = Prod.fst (Prod.snd (numZ s)),
      Prod.snd (Prod.snd (numZ s)) = Prod.snd (Prod.snd (numZ s))]) (by kernel_rfl) (.cons (by rfl) (.cons (by rfl) (.cons (by rfl) (.cons (by rfl) (.cons (by rfl) (.cons (by assumption) (.cons (by exact bne_iff_ne.2 (by omega)) (.cons (by rfl) (.cons (by rfl) (.cons (by rfl) (.cons (by rfl) (.cons (by rfl) (.cons (by rfl) .nil)))))))))))))

set_option maxHeartbeats 2000000 in
theorem rd_5k (s : ByteArray) (hz : s.size ≤ 140737488355328) (he : (numZ s).2.2 = 0) : PureOk Try.prog 25 ([sA s, iA 5]) (.tup [.agg [.val (.int .i64 5), .val (.int .u64 (numZ s).1), .val (.string ⟨#[]⟩)], .one (.val (.int .i64 (numZ s).2.1)), .one (.val (.int .i64 (numZ s).2.2))]) :=
  pure_run GbE_ok Try.func25 (orc := ⟨[false, false, false, false, false, false, true], [unroll 1]⟩) (obl := [decide ((5 : Int) < (1 : Int)) = false,
      decide ((5 : Int) > (6 : Int)) = false,
      decide ((↑(ByteArray.size s) : Int) < widthZ (5 : Int)) = false,
      decide ((0 : Int) < widthZ (5 : Int)) = false,
      decide (widthZ (5 : Int) > (0 : Int)) = false,
      ByteArray.size s ≤ (140737488355328 : Nat),
      (Prod.snd (Prod.snd (numZ s)) != (0 : Int)) = false,
      ((5 : Int) == (5 : Int)) = true,
      (5 : Int) = (5 : Int),
      Prod.fst (numZ s) = Prod.fst (numZ s),
      (ByteArray.mk #[]) = (ByteArray.mk #[]),
      Prod.fst (Prod.snd (numZ s)) = Prod.fst (Prod.snd (numZ s)),
      Prod.snd (Prod.snd (numZ s)) = Prod.snd (Prod.snd (numZ s))]) (by kernel_rfl) (.cons (by rfl) (.cons (by rfl) (.cons (by rfl) (.cons (by rfl) (.cons (by rfl) (.cons (by assumption) (.cons (by exact bne_eq_false_iff_eq.2 (by omega)) (.cons (by rfl) (.cons (by rfl) (.cons (by rfl) (.cons (by rfl) (.cons (by rfl) (.cons (by rfl) .nil)))))))))))))

set_option maxHeartbeats 2000000 in
theorem rd_6e (s : ByteArray) (hz : s.size ≤ 140737488355328) (he : (numZ s).2.2 ≠ 0) : PureOk Try.prog 25 ([sA s, iA 6]) (.tup [.agg [.val (.int .i64 6), .val (.int .u64 (numZ s).1), .val (.string ⟨#[]⟩)], .one (.val (.int .i64 (numZ s).2.1)), .one (.val (.int .i64 (numZ s).2.2))]) :=
  pure_run GbE_ok Try.func25 (orc := ⟨[false, false, false, false, false, true, true], [unroll 1]⟩) (obl := [decide ((6 : Int) < (1 : Int)) = false,
      decide ((6 : Int) > (6 : Int)) = false,
      decide ((↑(ByteArray.size s) : Int) < widthZ (6 : Int)) = false,
      decide ((0 : Int) < widthZ (6 : Int)) = false,
      decide (widthZ (6 : Int) > (0 : Int)) = false,
      ByteArray.size s ≤ (140737488355328 : Nat),
      (Prod.snd (Prod.snd (numZ s)) != (0 : Int)) = true,
      true = true,
      (6 : Int) = (6 : Int),
      Prod.fst (numZ s) = Prod.fst (numZ s),
      (ByteArray.mk #[]) = (ByteArray.mk #[]),
      Prod.fst (Prod.snd (numZ s)) = Prod.fst (Prod.snd (numZ s)),
      Prod.snd (Prod.snd (numZ s)) = Prod.snd (Prod.snd (numZ s))]) (by kernel_rfl) (.cons (by rfl) (.cons (by rfl) (.cons (by rfl) (.cons (by rfl) (.cons (by rfl) (.cons (by assumption) (.cons (by exact bne_iff_ne.2 (by omega)) (.cons (by rfl) (.cons (by rfl) (.cons (by rfl) (.cons (by rfl) (.cons (by rfl) (.cons (by rfl) .nil)))))))))))))

set_option maxHeartbeats 2000000 in
theorem rd_6l (s : ByteArray) (hz : s.size ≤ 140737488355328) (he : (numZ s).2.2 = 0) (hn : 65535 < (numZ s).1) : PureOk Try.prog 25 ([sA s, iA 6]) (.tup [.agg [.val (.int .i64 6), .val (.int .u64 0), .val (.string ⟨#[]⟩)], .one (.val (.int .i64 0)), .one (.val (.int .i64 4))]) :=
  pure_run GbE_ok Try.func25 (orc := ⟨[false, false, false, false, false, false, false, true], [unroll 1]⟩) (obl := [decide ((6 : Int) < (1 : Int)) = false,
      decide ((6 : Int) > (6 : Int)) = false,
      decide ((↑(ByteArray.size s) : Int) < widthZ (6 : Int)) = false,
      decide ((0 : Int) < widthZ (6 : Int)) = false,
      decide (widthZ (6 : Int) > (0 : Int)) = false,
      ByteArray.size s ≤ (140737488355328 : Nat),
      (Prod.snd (Prod.snd (numZ s)) != (0 : Int)) = false,
      ((6 : Int) == (5 : Int)) = false,
      decide (Prod.fst (numZ s) > (65535 : Int)) = true,
      (6 : Int) = (6 : Int),
      (0 : Int) = (0 : Int),
      (ByteArray.mk #[]) = (ByteArray.mk #[]),
      (0 : Int) = (0 : Int),
      (4 : Int) = (4 : Int)]) (by kernel_rfl) (.cons (by rfl) (.cons (by rfl) (.cons (by rfl) (.cons (by rfl) (.cons (by rfl) (.cons (by assumption) (.cons (by exact bne_eq_false_iff_eq.2 (by omega)) (.cons (by rfl) (.cons (by exact decide_eq_true (by omega)) (.cons (by rfl) (.cons (by rfl) (.cons (by rfl) (.cons (by rfl) (.cons (by rfl) .nil))))))))))))))

set_option maxHeartbeats 2000000 in
theorem rd_6s (s : ByteArray) (hz : s.size ≤ 140737488355328) (he : (numZ s).2.2 = 0) (hn : ¬ 65535 < (numZ s).1) (h0 : 0 ≤ (numZ s).1) (ha : 0 ≤ (numZ s).2.1) (hb : (numZ s).2.1 ≤ 10) (ew2 : IntKind.wrap IntKind.u64 (IntKind.wrap IntKind.i64 ((s.size : Int) - (numZ s).2.1)) = (s.size : Int) - (numZ s).2.1) (hl : (s.size : Int) - (numZ s).2.1 < (numZ s).1) : PureOk Try.prog 25 ([sA s, iA 6]) (.tup [.agg [.val (.int .i64 6), .val (.int .u64 0), .val (.string ⟨#[]⟩)], .one (.val (.int .i64 0)), .one (.val (.int .i64 2))]) :=
  pure_run GbE_ok Try.func25 (orc := ⟨[false, false, false, false, false, false, false, false, true], [unroll 1]⟩) (obl := [decide ((6 : Int) < (1 : Int)) = false,
      decide ((6 : Int) > (6 : Int)) = false,
      decide ((↑(ByteArray.size s) : Int) < widthZ (6 : Int)) = false,
      decide ((0 : Int) < widthZ (6 : Int)) = false,
      decide (widthZ (6 : Int) > (0 : Int)) = false,
      ByteArray.size s ≤ (140737488355328 : Nat),
      (Prod.snd (Prod.snd (numZ s)) != (0 : Int)) = false,
      ((6 : Int) == (5 : Int)) = false,
      decide (Prod.fst (numZ s) > (65535 : Int)) = false,
      decide (IntKind.wrap IntKind.u64 (IntKind.wrap IntKind.i64 ((↑(ByteArray.size s) : Int) - Prod.fst (Prod.snd (numZ s)))) < Prod.fst (numZ s)) = true,
      (6 : Int) = (6 : Int),
      (0 : Int) = (0 : Int),
      (ByteArray.mk #[]) = (ByteArray.mk #[]),
      (0 : Int) = (0 : Int),
      (2 : Int) = (2 : Int)]) (by kernel_rfl) (.cons (by rfl) (.cons (by rfl) (.cons (by rfl) (.cons (by rfl) (.cons (by rfl) (.cons (by assumption) (.cons (by exact bne_eq_false_iff_eq.2 (by omega)) (.cons (by rfl) (.cons (by exact decide_eq_false (by omega)) (.cons (by (rw [ew2]; exact decide_eq_true hl)) (.cons (by rfl) (.cons (by rfl) (.cons (by rfl) (.cons (by rfl) (.cons (by rfl) .nil)))))))))))))))

set_option maxHeartbeats 2000000 in
theorem rd_6k (s : ByteArray) (hz : s.size ≤ 140737488355328) (he : (numZ s).2.2 = 0) (hn : ¬ 65535 < (numZ s).1) (h0 : 0 ≤ (numZ s).1) (ha : 0 ≤ (numZ s).2.1) (hb : (numZ s).2.1 ≤ 10) (ew2 : IntKind.wrap IntKind.u64 (IntKind.wrap IntKind.i64 ((s.size : Int) - (numZ s).2.1)) = (s.size : Int) - (numZ s).2.1) (hl : ¬ (s.size : Int) - (numZ s).2.1 < (numZ s).1) (ew : IntKind.wrap IntKind.i64 (numZ s).1 = (numZ s).1) (ew3 : IntKind.wrap IntKind.i64 ((numZ s).2.1 + (numZ s).1) = (numZ s).2.1 + (numZ s).1) : PureOk Try.prog 25 ([sA s, iA 6]) (.tup [.agg [.val (.int .i64 6), .val (.int .u64 0), .val (.string (s.extract (numZ s).2.1.toNat ((numZ s).2.1 + (numZ s).1).toNat))], .one (.val (.int .i64 ((numZ s).2.1 + (numZ s).1))), .one (.val (.int .i64 0))]) :=
  pure_run GbE_ok Try.func25 (orc := ⟨[false, false, false, false, false, false, false, false, false], [unroll 1]⟩) (obl := [decide ((6 : Int) < (1 : Int)) = false,
      decide ((6 : Int) > (6 : Int)) = false,
      decide ((↑(ByteArray.size s) : Int) < widthZ (6 : Int)) = false,
      decide ((0 : Int) < widthZ (6 : Int)) = false,
      decide (widthZ (6 : Int) > (0 : Int)) = false,
      ByteArray.size s ≤ (140737488355328 : Nat),
      (Prod.snd (Prod.snd (numZ s)) != (0 : Int)) = false,
      ((6 : Int) == (5 : Int)) = false,
      decide (Prod.fst (numZ s) > (65535 : Int)) = false,
      decide (IntKind.wrap IntKind.u64 (IntKind.wrap IntKind.i64 ((↑(ByteArray.size s) : Int) - Prod.fst (Prod.snd (numZ s)))) < Prod.fst (numZ s)) = false,
      (0 : Int) ≤ Option.getD (some (Prod.snd (IntKind.i64, Prod.fst (Prod.snd (numZ s))))) (0 : Int),
      Option.getD (some (Prod.snd (IntKind.i64, Prod.fst (Prod.snd (numZ s))))) (0 : Int) ≤ Option.getD (some (Prod.snd (IntKind.i64, IntKind.wrap IntKind.i64 (Prod.fst (Prod.snd (numZ s)) + IntKind.wrap IntKind.i64 (Prod.fst (numZ s)))))) (↑(ByteArray.size s) : Int),
      Option.getD (some (Prod.snd (IntKind.i64, IntKind.wrap IntKind.i64 (Prod.fst (Prod.snd (numZ s)) + IntKind.wrap IntKind.i64 (Prod.fst (numZ s)))))) (↑(ByteArray.size s) : Int) ≤ (↑(ByteArray.size s) : Int),
      (6 : Int) = (6 : Int),
      (0 : Int) = (0 : Int),
      Prod.fst (ByteArray.extract s (Int.toNat (Option.getD (some (Prod.snd (IntKind.i64, Prod.fst (Prod.snd (numZ s))))) (0 : Int))) (Int.toNat (Option.getD (some (Prod.snd (IntKind.i64, IntKind.wrap IntKind.i64 (Prod.fst (Prod.snd (numZ s)) + IntKind.wrap IntKind.i64 (Prod.fst (numZ s)))))) (↑(ByteArray.size s) : Int))), [(0 : Int) ≤ Option.getD (some (Prod.snd (IntKind.i64, Prod.fst (Prod.snd (numZ s))))) (0 : Int), Option.getD (some (Prod.snd (IntKind.i64, Prod.fst (Prod.snd (numZ s))))) (0 : Int) ≤ Option.getD (some (Prod.snd (IntKind.i64, IntKind.wrap IntKind.i64 (Prod.fst (Prod.snd (numZ s)) + IntKind.wrap IntKind.i64 (Prod.fst (numZ s)))))) (↑(ByteArray.size s) : Int), Option.getD (some (Prod.snd (IntKind.i64, IntKind.wrap IntKind.i64 (Prod.fst (Prod.snd (numZ s)) + IntKind.wrap IntKind.i64 (Prod.fst (numZ s)))))) (↑(ByteArray.size s) : Int) ≤ (↑(ByteArray.size s) : Int)]) = ByteArray.extract s (Int.toNat (Prod.fst (Prod.snd (numZ s)))) (Int.toNat (Prod.fst (Prod.snd (numZ s)) + Prod.fst (numZ s))),
      IntKind.wrap IntKind.i64 (Prod.fst (Prod.snd (numZ s)) + IntKind.wrap IntKind.i64 (Prod.fst (numZ s))) = Prod.fst (Prod.snd (numZ s)) + Prod.fst (numZ s),
      (0 : Int) = (0 : Int)]) (by kernel_rfl) (.cons (by rfl) (.cons (by rfl) (.cons (by rfl) (.cons (by rfl) (.cons (by rfl) (.cons (by assumption) (.cons (by exact bne_eq_false_iff_eq.2 (by omega)) (.cons (by rfl) (.cons (by exact decide_eq_false (by omega)) (.cons (by (rw [ew2]; exact decide_eq_false hl)) (.cons (by assumption) (.cons (by (simp only [Option.getD, ew, ew3]; omega)) (.cons (by (simp only [Option.getD, ew, ew3]; omega)) (.cons (by rfl) (.cons (by rfl) (.cons (by (simp [*]; done)) (.cons (by (rw [ew, ew3])) (.cons (by rfl) .nil))))))))))))))))))
end Go.Proofs.Ytecgigeahkijaaa

/- wire: one and read as specifications. No condition. -/
namespace Go.Proofs.Ytecgigeahkijaaa
set_option linter.unusedVariables false
set_option linter.unusedSimpArgs false
open Go.RowKit E
theorem pureWOne (s : ByteArray) (k : Int) (hz : s.size ≤ 140737488355328) : PureOk Try.prog 30 [sA s, iA k] (.tup [.agg [.val (.int .i64 k), .val (.int .u64 (oneZ s k).1), .val (.string (oneZ s k).2.1)], .one (.val (.int .i64 (oneZ s k).2.2.1)), .one (.val (.int .i64 (oneZ s k).2.2.2))]) := by
  have hw := widthZ_bd k
  unfold oneZ
  by_cases q : 0 < widthZ k
  · rw [if_pos q]; exact ow_w s k hz q hw.2
  · rw [if_neg q]
    by_cases q5 : k = 5
    · rw [if_pos q5]; exact ow_5 s k hz q q5
    · rw [if_neg q5]
      by_cases q6 : k = 6
      · rw [if_pos q6]; exact ow_6 s k hz q q6
      · rw [if_neg q6]; exact ow_x s k hz q q5 q6
theorem rd_loop (s : ByteArray) (k w : Int) (h0 : 0 ≤ w) (h8 : w ≤ 8) (hs : w ≤ s.size) (hz : s.size ≤ 140737488355328) :
    CodeOk Try.prog 0 (.loop (loopOf Try.f25 0)) (mkSt 88 [(0, sA s), (1, iA k), (4, .nv (.one (.ptr 0 0))), (7, .nv (.one (.ptr 1 0))), (8, iA w), (9, iA (0 : Nat))] [.box 47 [.val (.int .i64 0), .val (.int .u64 0), .val (.string ⟨#[]⟩)], .box 47 [.val (.int .i64 k), .val (.int .u64 0), .val (.string ⟨#[]⟩)]]) (.exit 0) (mkSt 88 [(0, sA s), (1, iA k), (4, .nv (.one (.ptr 0 0))), (7, .nv (.one (.ptr 1 0))), (8, iA w)] [.box 47 [.val (.int .i64 0), .val (.int .u64 0), .val (.string ⟨#[]⟩)], .box 47 [.val (.int .i64 k), .val (.int .u64 (bigZ 0 ((ints s).take w.toNat))), .val (.string ⟨#[]⟩)]]) := by
  refine loop_ok (α := Nat) (fun i => (mkSt 88 [(0, sA s), (1, iA k), (4, .nv (.one (.ptr 0 0))), (7, .nv (.one (.ptr 1 0))), (8, iA w), (9, iA i)] [.box 47 [.val (.int .i64 0), .val (.int .u64 0), .val (.string ⟨#[]⟩)], .box 47 [.val (.int .i64 k), .val (.int .u64 (bigZ 0 ((ints s).take i))), .val (.string ⟨#[]⟩)]])) (fun i => i ≤ w.toNat) (fun i => w.toNat - i) (by simp) ?_ (x := 0) (Nat.zero_le _)
  intro i hi
  by_cases e : i = w.toNat
  · subst e
    have := rd_e s k w (bigZ 0 ((ints s).take w.toNat))
    rw [show ((w.toNat : Nat) : Int) = w by omega]
    exact .inr this
  · have hl := ints_len s
    have hb := bigZ_bd ((ints s).take i) 0 (inB_take (inB_ints s) i) (by omega)
    have hlen : ((ints s).take i).length = i := by rw [List.length_take]; omega
    rw [hlen] at hb
    have hp : (256 : Int) ^ i ≤ 256 ^ 7 := ipow_le (by decide) (by omega)
    have hp7 : (256 : Int) ^ 7 = 72057594037927936 := by decide
    refine .inl ⟨i + 1, (show i + 1 ≤ w.toNat by omega), (show w.toNat - (i + 1) < w.toNat - i by omega), rd_n s k w _ _ i (by omega) hs hz ?_⟩
    have hc := (byteAt_ints s i) ▸ byteAt_bd s i
    rw [take_snoc (by omega), bigZ_snoc, byteAt_wrap, byteAt_ints, wU64 (a := bigZ 0 ((ints s).take i) * 256) rfl (by omega)]
    exact wU64 rfl (by omega)
theorem pureRead (s : ByteArray) (k : Int) (hz : s.size ≤ 140737488355328) : PureOk Try.prog 25 [sA s, iA k] (.tup [.agg [.val (.int .i64 k), .val (.int .u64 (oneZ s k).1), .val (.string (oneZ s k).2.1)], .one (.val (.int .i64 (oneZ s k).2.2.1)), .one (.val (.int .i64 (oneZ s k).2.2.2))]) := by
  have hwk : ∀ k : Int, widthZ k = 0 ↔ k < 1 ∨ 4 < k := fun k => by unfold widthZ; (repeat' split) <;> omega
  have hw := widthZ_bd k
  have hn := numZ_bd s
  unfold oneZ
  by_cases c1 : k < 1
  · rw [if_neg (by have := (hwk k).2 (.inl c1); omega), if_neg (by omega), if_neg (by omega)]; exact rd_x1 s k c1
  by_cases c2 : 6 < k
  · rw [if_neg (by have := (hwk k).2 (.inr (by omega)); omega), if_neg (by omega), if_neg (by omega)]; exact rd_x2 s k c2
  by_cases q : 0 < widthZ k
  · rw [if_pos q]
    simp only
    unfold fixV
    by_cases l : (s.size : Int) < widthZ k
    · rw [if_pos l, if_pos l, if_pos l]; exact rd_s s k (by omega) (by omega) l
    · rw [if_neg l, if_neg l, if_neg l]
      exact rd_w s k _ _ (by omega) (by omega) rfl q l (rd_loop s k _ hw.1 hw.2 (by omega) hz)
  · rw [if_neg q]
    have hk : k = 5 ∨ k = 6 := by have := hwk k; omega
    rcases hk with rfl | rfl
    · rw [if_pos rfl]
      by_cases e : (numZ s).2.2 = 0
      · exact rd_5k s hz e
      · exact rd_5e s hz e
    · rw [if_neg (by decide), if_pos rfl]
      simp only
      unfold txtZ
      by_cases e : (numZ s).2.2 = 0
      · obtain ⟨a1, a2, a3, a4, a5⟩ := hn.2.2 e
        rw [if_neg (by omega)]
        by_cases l : 65535 < (numZ s).1
        · rw [if_pos l]; exact rd_6l s hz e l
        · rw [if_neg l]
          have ew2 : IntKind.wrap IntKind.u64 (IntKind.wrap IntKind.i64 ((s.size : Int) - (numZ s).2.1)) = (s.size : Int) - (numZ s).2.1 := by
            rw [w64 (a := (s.size : Int) - (numZ s).2.1) rfl (by omega)]; exact wU64 rfl (by omega)
          by_cases q : (s.size : Int) - (numZ s).2.1 < (numZ s).1
          · rw [if_pos q]; exact rd_6s s hz e l a1 (by omega) a5 ew2 q
          · rw [if_neg q]; exact rd_6k s hz e l a1 (by omega) a5 ew2 q (w64 rfl (by omega)) (w64 rfl (by omega))
      · rw [if_pos e]
        have := rd_6e s hz e
        obtain ⟨b1, b2⟩ := hn.2.1 e
        rw [b1, b2] at this
        exact this
def gOneR : List SV → Option (SV × List Prop)
  | [.nv (.one (.val (.string s))), .nv (.one (.val (.int .i64 k)))] => some (.tup [.agg [.val (.int .i64 k), .val (.int .u64 (oneZ s k).1), .val (.string (oneZ s k).2.1)], .one (.val (.int .i64 (oneZ s k).2.2.1)), .one (.val (.int .i64 (oneZ s k).2.2.2))], [s.size ≤ 140737488355328])
  | _ => none
theorem spWOne : SpOk Try.prog 30 (pureS gOneR) := pureS_ok (by
  intro args r obl h ho
  unfold gOneR at h
  split at h
  · simp only [Option.some.injEq, Prod.mk.injEq] at h
    obtain ⟨rfl, rfl⟩ := h
    exact ⟨rfl, rfl, pureWOne _ _ ho.1⟩
  · cases h)
theorem spRead : SpOk Try.prog 25 (pureS gOneR) := pureS_ok (by
  intro args r obl h ho
  unfold gOneR at h
  split at h
  · simp only [Option.some.injEq, Prod.mk.injEq] at h
    obtain ⟨rfl, rfl⟩ := h
    exact ⟨rfl, rfl, pureRead _ _ ho.1⟩
  · cases h)
def GbF : List (FuncId × Sp) := (30, pureS gOneR) :: (25, pureS gOneR) :: GbE
theorem GbF_ok : CtxOk Try.prog GbF := ctx_cons (enter_of Try.func30 (by kernel_rfl) (by kernel_rfl)) spWOne <|
  ctx_cons (enter_of Try.func25 (by kernel_rfl) (by kernel_rfl)) spRead GbE_ok
end Go.Proofs.Ytecgigeahkijaaa
