/- Runs of Go code, as printed by a program: no condition beyond those that each states. -/
import Derived.Test.YteehpliloegkgaaHeC
import Derived.Test.YteehpliloegkgaaChecked
import Derived.KernelRfl
namespace Go.Proofs.Yteehpliloegkgaa
set_option linter.unusedVariables false
set_option linter.unusedSimpArgs false
set_option maxRecDepth 100000
open Go.RowKit E
attribute [local irreducible] hPutS hPutE tkE tkH tkB Hd.wf ByteArray.extract ByteArray.append ByteArray.size
set_option maxHeartbeats 2000000 in
theorem hp_l (d id ttl src dst sp dp : Int) (b : ByteArray) (h : 70000 < b.size) : LawOk Try.prog 3 ([.nv (.agg [.val (.int .u8 d), .val (.int .u16 id), .val (.int .u8 ttl), .val (.int .u32 src), .val (.int .u32 dst), .val (.int .u16 sp), .val (.int .u16 dp)]), sA b]) ([]) (bA true) :=
  law_run GhK_ok Try.func3 (orc := ⟨[true], []⟩) (obl := [decide ((↑(ByteArray.size b) : Int) > (70000 : Int)) = true,
      true = true]) (by kernel_rfl) (.cons (by exact decide_eq_true (by omega)) (.cons (by rfl) .nil))

set_option maxHeartbeats 2000000 in
theorem hp_e (d id ttl src dst sp dp : Int) (b : ByteArray) (h : b.size ≤ 70000) (hw : Hd.wf (Hd.mk d id ttl src dst sp dp)) (e : hPutE (Hd.mk d id ttl src dst sp dp) b ≠ 0) : LawOk Try.prog 3 ([.nv (.agg [.val (.int .u8 d), .val (.int .u16 id), .val (.int .u8 ttl), .val (.int .u32 src), .val (.int .u32 dst), .val (.int .u16 sp), .val (.int .u16 dp)]), sA b]) ([]) (bA true) :=
  law_run GhK_ok Try.func3 (orc := ⟨[false, false, false, true], []⟩) (obl := [decide ((↑(ByteArray.size b) : Int) > (70000 : Int)) = false,
      Hd.wf { d := d, id := id, ttl := ttl, src := src, dst := dst, sp := sp, dp := dp },
      Hd.wf { d := d, id := id, ttl := ttl, src := src, dst := dst, sp := sp, dp := dp },
      (!ByteArray.toList (hPutS { d := d, id := id, ttl := ttl, src := src, dst := dst, sp := sp, dp := dp } b) == ByteArray.toList (hPutS { d := d, id := id, ttl := ttl, src := src, dst := dst, sp := sp, dp := dp } b)) = false,
      (hPutE { d := d, id := id, ttl := ttl, src := src, dst := dst, sp := sp, dp := dp } b != hPutE { d := d, id := id, ttl := ttl, src := src, dst := dst, sp := sp, dp := dp } b) = false,
      (hPutE { d := d, id := id, ttl := ttl, src := src, dst := dst, sp := sp, dp := dp } b != (0 : Int)) = true,
      true = true]) (by kernel_rfl) (.cons (by exact decide_eq_false (by omega)) (.cons (by assumption) (.cons (by assumption) (.cons (by exact congrArg not (toList_same _)) (.cons (by exact bne_self_eq_false _) (.cons (by exact bne_iff_ne.2 e) (.cons (by rfl) .nil)))))))

set_option maxHeartbeats 2000000 in
theorem hp_k (d id ttl src dst sp dp : Int) (b : ByteArray) (h : b.size ≤ 70000) (hw : Hd.wf (Hd.mk d id ttl src dst sp dp)) (e : hPutE (Hd.mk d id ttl src dst sp dp) b = 0) (hs : (hPutS (Hd.mk d id ttl src dst sp dp) b).size ≤ 140737488355328) (z0 : ((tkH (hPutS (Hd.mk d id ttl src dst sp dp) b)).d == d) = true) (z1 : ((tkH (hPutS (Hd.mk d id ttl src dst sp dp) b)).id == id) = true) (z2 : ((tkH (hPutS (Hd.mk d id ttl src dst sp dp) b)).ttl == ttl) = true) (z3 : ((tkH (hPutS (Hd.mk d id ttl src dst sp dp) b)).src == src) = true) (z4 : ((tkH (hPutS (Hd.mk d id ttl src dst sp dp) b)).dst == dst) = true) (z5 : ((tkH (hPutS (Hd.mk d id ttl src dst sp dp) b)).sp == sp) = true) (z6 : ((tkH (hPutS (Hd.mk d id ttl src dst sp dp) b)).dp == dp) = true) (zb : ((tkB (hPutS (Hd.mk d id ttl src dst sp dp) b)).toList == b.toList) = true) (ze : (tkE (hPutS (Hd.mk d id ttl src dst sp dp) b) == 0) = true) : LawOk Try.prog 3 ([.nv (.agg [.val (.int .u8 d), .val (.int .u16 id), .val (.int .u8 ttl), .val (.int .u32 src), .val (.int .u32 dst), .val (.int .u16 sp), .val (.int .u16 dp)]), sA b]) ([]) (bA true) :=
  law_run GhK_ok Try.func3 (orc := ⟨[false, false, false, false, true, true, true], []⟩) (obl := [decide ((↑(ByteArray.size b) : Int) > (70000 : Int)) = false,
      Hd.wf { d := d, id := id, ttl := ttl, src := src, dst := dst, sp := sp, dp := dp },
      Hd.wf { d := d, id := id, ttl := ttl, src := src, dst := dst, sp := sp, dp := dp },
      (!ByteArray.toList (hPutS { d := d, id := id, ttl := ttl, src := src, dst := dst, sp := sp, dp := dp } b) == ByteArray.toList (hPutS { d := d, id := id, ttl := ttl, src := src, dst := dst, sp := sp, dp := dp } b)) = false,
      (hPutE { d := d, id := id, ttl := ttl, src := src, dst := dst, sp := sp, dp := dp } b != hPutE { d := d, id := id, ttl := ttl, src := src, dst := dst, sp := sp, dp := dp } b) = false,
      (hPutE { d := d, id := id, ttl := ttl, src := src, dst := dst, sp := sp, dp := dp } b != (0 : Int)) = false,
      ByteArray.size (hPutS { d := d, id := id, ttl := ttl, src := src, dst := dst, sp := sp, dp := dp } b) ≤ (140737488355328 : Nat),
      (Hd.d (tkH (hPutS { d := d, id := id, ttl := ttl, src := src, dst := dst, sp := sp, dp := dp } b)) == d && (Hd.id (tkH (hPutS { d := d, id := id, ttl := ttl, src := src, dst := dst, sp := sp, dp := dp } b)) == id && (Hd.ttl (tkH (hPutS { d := d, id := id, ttl := ttl, src := src, dst := dst, sp := sp, dp := dp } b)) == ttl && (Hd.src (tkH (hPutS { d := d, id := id, ttl := ttl, src := src, dst := dst, sp := sp, dp := dp } b)) == src && (Hd.dst (tkH (hPutS { d := d, id := id, ttl := ttl, src := src, dst := dst, sp := sp, dp := dp } b)) == dst && (Hd.sp (tkH (hPutS { d := d, id := id, ttl := ttl, src := src, dst := dst, sp := sp, dp := dp } b)) == sp && (Hd.dp (tkH (hPutS { d := d, id := id, ttl := ttl, src := src, dst := dst, sp := sp, dp := dp } b)) == dp && true))))))) = true,
      (ByteArray.toList (tkB (hPutS { d := d, id := id, ttl := ttl, src := src, dst := dst, sp := sp, dp := dp } b)) == ByteArray.toList b) = true,
      (tkE (hPutS { d := d, id := id, ttl := ttl, src := src, dst := dst, sp := sp, dp := dp } b) == (0 : Int)) = true,
      true = true]) (by kernel_rfl) (.cons (by exact decide_eq_false (by omega)) (.cons (by assumption) (.cons (by assumption) (.cons (by exact congrArg not (toList_same _)) (.cons (by exact bne_self_eq_false _) (.cons (by exact bne_eq_false_iff_eq.2 e) (.cons (by assumption) (.cons (by (simp [*]; done)) (.cons (by assumption) (.cons (by assumption) (.cons (by rfl) .nil)))))))))))
end Go.Proofs.Yteehpliloegkgaa
