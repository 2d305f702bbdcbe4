/- Runs of Go code, as printed by a program: no condition beyond those that each states. -/
import Derived.Test.YteehpliloegkgaaHdS
import Derived.Test.YteehpliloegkgaaChecked
import Derived.KernelRfl
namespace Go.Proofs.Yteehpliloegkgaa
set_option linter.unusedVariables false
set_option linter.unusedSimpArgs false
set_option maxRecDepth 100000
open Go.RowKit E
attribute [local irreducible] ringZ inetZ halvL strL w2 hfZ wdZ nmZ formZ updZ hPutS hPutE dtE dtH dtB Hd.wf ByteArray.extract ByteArray.append ByteArray.size
set_option maxHeartbeats 2000000 in
theorem dm_1 (s : ByteArray) (d : Int) (h : d > 63) : PureOk Try.prog 14 ([sA s, .nv (.one (.val (.int .u8 d)))]) (.tup [.one (.val (.string ⟨#[]⟩)), .one (.val (.int .i64 6))]) :=
  pure_run GhI_ok Try.func14 (orc := ⟨[true], []⟩) (obl := [decide (d > (63 : Int)) = true,
      (ByteArray.mk #[]) = (ByteArray.mk #[]),
      (6 : Int) = (6 : Int)]) (by kernel_rfl) (.cons (by exact decide_eq_true (by omega)) (.cons (by rfl) (.cons (by rfl) .nil)))

set_option maxHeartbeats 2000000 in
theorem dm_2 (s : ByteArray) (d : Int) (hz : s.size ≤ 70000) (h : d ≤ 63) (e : ¬ (dtE s = 0)) : PureOk Try.prog 14 ([sA s, .nv (.one (.val (.int .u8 d)))]) (.tup [.one (.val (.string ⟨#[]⟩)), .one (.val (.int .i64 (dtE s)))]) :=
  pure_run GhI_ok Try.func14 (orc := ⟨[false, true], []⟩) (obl := [decide (d > (63 : Int)) = false,
      ByteArray.size s ≤ (70000 : Nat),
      (dtE s != (0 : Int)) = true,
      (ByteArray.mk #[]) = (ByteArray.mk #[]),
      dtE s = dtE s]) (by kernel_rfl) (.cons (by exact decide_eq_false (by omega)) (.cons (by assumption) (.cons (by exact bne_iff_ne.2 e) (.cons (by rfl) (.cons (by rfl) .nil)))))

set_option maxHeartbeats 2000000 in
theorem dm_3 (s : ByteArray) (d : Int) (hz : s.size ≤ 70000) (h : d ≤ 63) (e : dtE s = 0) (hw : Hd.wf (Hd.mk d (dtH s).id (dtH s).ttl (dtH s).src (dtH s).dst (dtH s).sp (dtH s).dp)) : PureOk Try.prog 14 ([sA s, .nv (.one (.val (.int .u8 d)))]) (.tup [.one (.val (.string (hPutS (Hd.mk d (dtH s).id (dtH s).ttl (dtH s).src (dtH s).dst (dtH s).sp (dtH s).dp) (dtB s)))), .one (.val (.int .i64 (hPutE (Hd.mk d (dtH s).id (dtH s).ttl (dtH s).src (dtH s).dst (dtH s).sp (dtH s).dp) (dtB s))))]) :=
  pure_run GhI_ok Try.func14 (orc := ⟨[false, false], []⟩) (obl := [decide (d > (63 : Int)) = false,
      ByteArray.size s ≤ (70000 : Nat),
      (dtE s != (0 : Int)) = false,
      Hd.wf { d := d, id := Hd.id (dtH s), ttl := Hd.ttl (dtH s), src := Hd.src (dtH s), dst := Hd.dst (dtH s), sp := Hd.sp (dtH s), dp := Hd.dp (dtH s) },
      hPutS { d := d, id := Hd.id (dtH s), ttl := Hd.ttl (dtH s), src := Hd.src (dtH s), dst := Hd.dst (dtH s), sp := Hd.sp (dtH s), dp := Hd.dp (dtH s) } (dtB s) = hPutS { d := d, id := Hd.id (dtH s), ttl := Hd.ttl (dtH s), src := Hd.src (dtH s), dst := Hd.dst (dtH s), sp := Hd.sp (dtH s), dp := Hd.dp (dtH s) } (dtB s),
      hPutE { d := d, id := Hd.id (dtH s), ttl := Hd.ttl (dtH s), src := Hd.src (dtH s), dst := Hd.dst (dtH s), sp := Hd.sp (dtH s), dp := Hd.dp (dtH s) } (dtB s) = hPutE { d := d, id := Hd.id (dtH s), ttl := Hd.ttl (dtH s), src := Hd.src (dtH s), dst := Hd.dst (dtH s), sp := Hd.sp (dtH s), dp := Hd.dp (dtH s) } (dtB s)]) (by kernel_rfl) (.cons (by exact decide_eq_false (by omega)) (.cons (by assumption) (.cons (by exact bne_eq_false_iff_eq.2 e) (.cons (by assumption) (.cons (by rfl) (.cons (by rfl) .nil))))))

set_option maxHeartbeats 2000000 in
theorem dh_2 (s : ByteArray) (hz : s.size ≤ 70000) (e : ¬ (dtE s = 0)) : PureOk Try.prog 16 ([sA s]) (.tup [.one (.val (.string ⟨#[]⟩)), .one (.val (.int .i64 (dtE s)))]) :=
  pure_run GhI_ok Try.func16 (orc := ⟨[true], []⟩) (obl := [ByteArray.size s ≤ (70000 : Nat),
      (dtE s != (0 : Int)) = true,
      (ByteArray.mk #[]) = (ByteArray.mk #[]),
      dtE s = dtE s]) (by kernel_rfl) (.cons (by assumption) (.cons (by exact bne_iff_ne.2 e) (.cons (by rfl) (.cons (by rfl) .nil))))

set_option maxHeartbeats 2000000 in
theorem dh_3 (s : ByteArray) (hz : s.size ≤ 70000) (e : dtE s = 0) (ht : (dtH s).ttl < 2) : PureOk Try.prog 16 ([sA s]) (.tup [.one (.val (.string ⟨#[]⟩)), .one (.val (.int .i64 21))]) :=
  pure_run GhI_ok Try.func16 (orc := ⟨[false, true], []⟩) (obl := [ByteArray.size s ≤ (70000 : Nat),
      (dtE s != (0 : Int)) = false,
      decide (Hd.ttl (dtH s) < (2 : Int)) = true,
      (ByteArray.mk #[]) = (ByteArray.mk #[]),
      (21 : Int) = (21 : Int)]) (by kernel_rfl) (.cons (by assumption) (.cons (by exact bne_eq_false_iff_eq.2 e) (.cons (by exact decide_eq_true (by omega)) (.cons (by rfl) (.cons (by rfl) .nil)))))

set_option maxHeartbeats 2000000 in
theorem dh_4 (s : ByteArray) (hz : s.size ≤ 70000) (e : dtE s = 0) (ht : ¬ (dtH s).ttl < 2) (hw : Hd.wf (Hd.mk (dtH s).d (dtH s).id (IntKind.wrap IntKind.u8 ((dtH s).ttl - 1)) (dtH s).src (dtH s).dst (dtH s).sp (dtH s).dp)) : PureOk Try.prog 16 ([sA s]) (.tup [.one (.val (.string (hPutS (Hd.mk (dtH s).d (dtH s).id (IntKind.wrap IntKind.u8 ((dtH s).ttl - 1)) (dtH s).src (dtH s).dst (dtH s).sp (dtH s).dp) (dtB s)))), .one (.val (.int .i64 (hPutE (Hd.mk (dtH s).d (dtH s).id (IntKind.wrap IntKind.u8 ((dtH s).ttl - 1)) (dtH s).src (dtH s).dst (dtH s).sp (dtH s).dp) (dtB s))))]) :=
  pure_run GhI_ok Try.func16 (orc := ⟨[false, false], []⟩) (obl := [ByteArray.size s ≤ (70000 : Nat),
      (dtE s != (0 : Int)) = false,
      decide (Hd.ttl (dtH s) < (2 : Int)) = false,
      Hd.wf { d := Hd.d (dtH s), id := Hd.id (dtH s), ttl := IntKind.wrap IntKind.u8 (Hd.ttl (dtH s) - (1 : Int)), src := Hd.src (dtH s), dst := Hd.dst (dtH s), sp := Hd.sp (dtH s), dp := Hd.dp (dtH s) },
      hPutS { d := Hd.d (dtH s), id := Hd.id (dtH s), ttl := IntKind.wrap IntKind.u8 (Hd.ttl (dtH s) - (1 : Int)), src := Hd.src (dtH s), dst := Hd.dst (dtH s), sp := Hd.sp (dtH s), dp := Hd.dp (dtH s) } (dtB s) = hPutS { d := Hd.d (dtH s), id := Hd.id (dtH s), ttl := IntKind.wrap IntKind.u8 (Hd.ttl (dtH s) - (1 : Int)), src := Hd.src (dtH s), dst := Hd.dst (dtH s), sp := Hd.sp (dtH s), dp := Hd.dp (dtH s) } (dtB s),
      hPutE { d := Hd.d (dtH s), id := Hd.id (dtH s), ttl := IntKind.wrap IntKind.u8 (Hd.ttl (dtH s) - (1 : Int)), src := Hd.src (dtH s), dst := Hd.dst (dtH s), sp := Hd.sp (dtH s), dp := Hd.dp (dtH s) } (dtB s) = hPutE { d := Hd.d (dtH s), id := Hd.id (dtH s), ttl := IntKind.wrap IntKind.u8 (Hd.ttl (dtH s) - (1 : Int)), src := Hd.src (dtH s), dst := Hd.dst (dtH s), sp := Hd.sp (dtH s), dp := Hd.dp (dtH s) } (dtB s)]) (by kernel_rfl) (.cons (by assumption) (.cons (by exact bne_eq_false_iff_eq.2 e) (.cons (by exact decide_eq_false (by omega)) (.cons (by assumption) (.cons (by rfl) (.cons (by rfl) .nil))))))
end Go.Proofs.Yteehpliloegkgaa
