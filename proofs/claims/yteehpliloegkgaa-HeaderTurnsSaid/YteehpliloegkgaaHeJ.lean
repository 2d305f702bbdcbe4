/- Runs of Go code, as printed by a program: no condition beyond those that each states. -/
import Derived.Test.YteehpliloegkgaaHeI
import Derived.Test.YteehpliloegkgaaChecked
import Derived.KernelRfl
namespace Go.Proofs.Yteehpliloegkgaa
set_option linter.unusedVariables false
set_option linter.unusedSimpArgs false
set_option maxRecDepth 100000
open Go.RowKit E
attribute [local irreducible] hPutS hPutE tkE tkH tkB dtE dtH dtB mkE mkS hoE hoS dmE dmS dhE dhS withZ Hd.wf ByteArray.extract ByteArray.append ByteArray.size
set_option maxHeartbeats 2000000 in
theorem ha_l (s : ByteArray) (x : Int) (h : 70000 < s.size) : LawOk Try.prog 5 ([sA s, .nv (.one (.val (.int .u8 x)))]) ([]) (bA true) :=
  law_run GhK_ok Try.func5 (orc := ⟨[true], []⟩) (obl := [decide ((↑(ByteArray.size s) : Int) > (70000 : Int)) = true,
      true = true]) (by kernel_rfl) (.cons (by exact decide_eq_true (by omega)) (.cons (by rfl) .nil))

set_option maxHeartbeats 2000000 in
theorem ha_e (s : ByteArray) (x : Int) (hx : 0 ≤ x ∧ x ≤ 255) (h : s.size ≤ 70000) (z0 : ((tkH s).d == (dtH s).d) = true) (z1 : ((tkH s).id == (dtH s).id) = true) (z2 : ((tkH s).ttl == (dtH s).ttl) = true) (z3 : ((tkH s).src == (dtH s).src) = true) (z4 : ((tkH s).dst == (dtH s).dst) = true) (z5 : ((tkH s).sp == (dtH s).sp) = true) (z6 : ((tkH s).dp == (dtH s).dp) = true) (zb : ((tkB s).toList == (dtB s).toList) = true) (ze : (tkE s != dtE s) = false) (m1 : ((mkS s x).toList == (dmS s x).toList) = true) (m2 : (mkE s x != dmE s x) = false) (h1 : ((hoS s).toList == (dhS s).toList) = true) (h2 : (hoE s != dhE s) = false) (e : tkE s ≠ 0) : LawOk Try.prog 5 ([sA s, .nv (.one (.val (.int .u8 x)))]) ([]) (bA true) :=
  law_run GhK_ok Try.func5 (orc := ⟨[false, false, false, false, false, false, false, false, false], []⟩) (obl := [decide ((↑(ByteArray.size s) : Int) > (70000 : Int)) = false,
      ByteArray.size s ≤ (140737488355328 : Nat),
      ByteArray.size s ≤ (70000 : Nat),
      ByteArray.size s ≤ (70000 : Nat),
      (0 : Int) ≤ x,
      x ≤ (255 : Int),
      ByteArray.size s ≤ (70000 : Nat),
      (0 : Int) ≤ x,
      x ≤ (255 : Int),
      ByteArray.size s ≤ (70000 : Nat),
      ByteArray.size s ≤ (70000 : Nat),
      (!(Hd.d (tkH s) == Hd.d (dtH s) && (Hd.id (tkH s) == Hd.id (dtH s) && (Hd.ttl (tkH s) == Hd.ttl (dtH s) && (Hd.src (tkH s) == Hd.src (dtH s) && (Hd.dst (tkH s) == Hd.dst (dtH s) && (Hd.sp (tkH s) == Hd.sp (dtH s) && (Hd.dp (tkH s) == Hd.dp (dtH s) && true)))))))) = false,
      (!ByteArray.toList (tkB s) == ByteArray.toList (dtB s)) = false,
      (tkE s != dtE s) = false,
      (!ByteArray.toList (mkS s x) == ByteArray.toList (dmS s x)) = false,
      (mkE s x != dmE s x) = false,
      (!ByteArray.toList (hoS s) == ByteArray.toList (dhS s)) = false,
      (hoE s != dhE s) = false,
      (tkE s == (0 : Int)) = false,
      true = true]) (by kernel_rfl) (.cons (by exact decide_eq_false (by omega)) (.cons (by omega) (.cons (by assumption) (.cons (by assumption) (.cons (by omega) (.cons (by omega) (.cons (by assumption) (.cons (by omega) (.cons (by omega) (.cons (by assumption) (.cons (by assumption) (.cons (by (simp [*]; done)) (.cons (by exact congrArg not zb) (.cons (by assumption) (.cons (by exact congrArg not m1) (.cons (by assumption) (.cons (by exact congrArg not h1) (.cons (by assumption) (.cons (by exact beq_eq_false_iff_ne.2 e) (.cons (by rfl) .nil))))))))))))))))))))

set_option maxHeartbeats 2000000 in
theorem ha_k (s : ByteArray) (x : Int) (hx : 0 ≤ x ∧ x ≤ 255) (h : s.size ≤ 70000) (z0 : ((tkH s).d == (dtH s).d) = true) (z1 : ((tkH s).id == (dtH s).id) = true) (z2 : ((tkH s).ttl == (dtH s).ttl) = true) (z3 : ((tkH s).src == (dtH s).src) = true) (z4 : ((tkH s).dst == (dtH s).dst) = true) (z5 : ((tkH s).sp == (dtH s).sp) = true) (z6 : ((tkH s).dp == (dtH s).dp) = true) (zb : ((tkB s).toList == (dtB s).toList) = true) (ze : (tkE s != dtE s) = false) (m1 : ((mkS s x).toList == (dmS s x).toList) = true) (m2 : (mkE s x != dmE s x) = false) (h1 : ((hoS s).toList == (dhS s).toList) = true) (h2 : (hoE s != dhE s) = false) (e : tkE s = 0) (hw : Hd.wf (Hd.mk (tkH s).d (tkH s).id (tkH s).ttl (tkH s).src (tkH s).dst (tkH s).sp (tkH s).dp)) (p1 : ((hPutS (Hd.mk (tkH s).d (tkH s).id (tkH s).ttl (tkH s).src (tkH s).dst (tkH s).sp (tkH s).dp) (tkB s)).toList == s.toList) = true) (p2 : hPutE (Hd.mk (tkH s).d (tkH s).id (tkH s).ttl (tkH s).src (tkH s).dst (tkH s).sp (tkH s).dp) (tkB s) = 0) : LawOk Try.prog 5 ([sA s, .nv (.one (.val (.int .u8 x)))]) ([]) (bA true) :=
  law_run GhK_ok Try.func5 (orc := ⟨[false, false, false, false, false, false, false, false, true, false, false], []⟩) (obl := [decide ((↑(ByteArray.size s) : Int) > (70000 : Int)) = false,
      ByteArray.size s ≤ (140737488355328 : Nat),
      ByteArray.size s ≤ (70000 : Nat),
      ByteArray.size s ≤ (70000 : Nat),
      (0 : Int) ≤ x,
      x ≤ (255 : Int),
      ByteArray.size s ≤ (70000 : Nat),
      (0 : Int) ≤ x,
      x ≤ (255 : Int),
      ByteArray.size s ≤ (70000 : Nat),
      ByteArray.size s ≤ (70000 : Nat),
      (!(Hd.d (tkH s) == Hd.d (dtH s) && (Hd.id (tkH s) == Hd.id (dtH s) && (Hd.ttl (tkH s) == Hd.ttl (dtH s) && (Hd.src (tkH s) == Hd.src (dtH s) && (Hd.dst (tkH s) == Hd.dst (dtH s) && (Hd.sp (tkH s) == Hd.sp (dtH s) && (Hd.dp (tkH s) == Hd.dp (dtH s) && true)))))))) = false,
      (!ByteArray.toList (tkB s) == ByteArray.toList (dtB s)) = false,
      (tkE s != dtE s) = false,
      (!ByteArray.toList (mkS s x) == ByteArray.toList (dmS s x)) = false,
      (mkE s x != dmE s x) = false,
      (!ByteArray.toList (hoS s) == ByteArray.toList (dhS s)) = false,
      (hoE s != dhE s) = false,
      (tkE s == (0 : Int)) = true,
      Hd.wf { d := Hd.d (tkH s), id := Hd.id (tkH s), ttl := Hd.ttl (tkH s), src := Hd.src (tkH s), dst := Hd.dst (tkH s), sp := Hd.sp (tkH s), dp := Hd.dp (tkH s) },
      (!ByteArray.toList (hPutS { d := Hd.d (tkH s), id := Hd.id (tkH s), ttl := Hd.ttl (tkH s), src := Hd.src (tkH s), dst := Hd.dst (tkH s), sp := Hd.sp (tkH s), dp := Hd.dp (tkH s) } (tkB s)) == ByteArray.toList s) = false,
      (hPutE { d := Hd.d (tkH s), id := Hd.id (tkH s), ttl := Hd.ttl (tkH s), src := Hd.src (tkH s), dst := Hd.dst (tkH s), sp := Hd.sp (tkH s), dp := Hd.dp (tkH s) } (tkB s) != (0 : Int)) = false,
      true = true]) (by kernel_rfl) (.cons (by exact decide_eq_false (by omega)) (.cons (by omega) (.cons (by assumption) (.cons (by assumption) (.cons (by omega) (.cons (by omega) (.cons (by assumption) (.cons (by omega) (.cons (by omega) (.cons (by assumption) (.cons (by assumption) (.cons (by (simp [*]; done)) (.cons (by exact congrArg not zb) (.cons (by assumption) (.cons (by exact congrArg not m1) (.cons (by assumption) (.cons (by exact congrArg not h1) (.cons (by assumption) (.cons (by exact beq_iff_eq.2 e) (.cons (by assumption) (.cons (by exact congrArg not p1) (.cons (by exact bne_eq_false_iff_eq.2 p2) (.cons (by rfl) .nil)))))))))))))))))))))))

set_option maxHeartbeats 2000000 in
theorem hf_l (d id ttl src dst sp dp : Int) (b : ByteArray) (k0 c : Int) (h : 5000 < b.size) : LawOk Try.prog 4 ([.nv (.agg [.val (.int .u8 d), .val (.int .u16 id), .val (.int .u8 ttl), .val (.int .u32 src), .val (.int .u32 dst), .val (.int .u16 sp), .val (.int .u16 dp)]), sA b, .nv (.agg [.val (.int .u8 k0), .val (.int .u8 c)])]) ([]) (bA true) :=
  law_run GhK_ok Try.func4 (orc := ⟨[true], []⟩) (obl := [(0 : Int) ≤ (0 : Int),
      (0 : Int) < (↑(2 : Nat) : Int),
      (0 : Int) ≤ (1 : Int),
      (1 : Int) < (↑(2 : Nat) : Int),
      decide ((↑(ByteArray.size b) : Int) > (5000 : Int)) = true,
      true = true]) (by kernel_rfl) (.cons (by trivial) (.cons (by trivial) (.cons (by trivial) (.cons (by trivial) (.cons (by exact decide_eq_true (by omega)) (.cons (by rfl) .nil))))))

set_option maxHeartbeats 2000000 in
theorem hf_e (d id ttl src dst sp dp : Int) (b : ByteArray) (k0 c : Int) (h : b.size ≤ 5000) (hw : Hd.wf (Hd.mk d id ttl src dst sp dp)) (e : hPutE (Hd.mk d id ttl src dst sp dp) b ≠ 0) (z : (hPutS (Hd.mk d id ttl src dst sp dp) b).size = 0) : LawOk Try.prog 4 ([.nv (.agg [.val (.int .u8 d), .val (.int .u16 id), .val (.int .u8 ttl), .val (.int .u32 src), .val (.int .u32 dst), .val (.int .u16 sp), .val (.int .u16 dp)]), sA b, .nv (.agg [.val (.int .u8 k0), .val (.int .u8 c)])]) ([]) (bA true) :=
  law_run GhK_ok Try.func4 (orc := ⟨[false, true, true, true], []⟩) (obl := [(0 : Int) ≤ (0 : Int),
      (0 : Int) < (↑(2 : Nat) : Int),
      (0 : Int) ≤ (1 : Int),
      (1 : Int) < (↑(2 : Nat) : Int),
      decide ((↑(ByteArray.size b) : Int) > (5000 : Int)) = false,
      Hd.wf { d := d, id := id, ttl := ttl, src := src, dst := dst, sp := sp, dp := dp },
      (hPutE { d := d, id := id, ttl := ttl, src := src, dst := dst, sp := sp, dp := dp } b != (0 : Int)) = true,
      true = true,
      ((↑(ByteArray.size (hPutS { d := d, id := id, ttl := ttl, src := src, dst := dst, sp := sp, dp := dp } b)) : Int) == (0 : Int)) = true,
      true = true]) (by kernel_rfl) (.cons (by trivial) (.cons (by trivial) (.cons (by trivial) (.cons (by trivial) (.cons (by exact decide_eq_false (by omega)) (.cons (by assumption) (.cons (by exact bne_iff_ne.2 e) (.cons (by rfl) (.cons (by exact decide_eq_true (by omega)) (.cons (by rfl) .nil))))))))))

set_option maxHeartbeats 2000000 in
theorem hf_k (d id ttl src dst sp dp : Int) (b : ByteArray) (k0 c : Int) (hk : 0 ≤ k0 ∧ k0 ≤ 255) (hc : 0 ≤ c ∧ c ≤ 255) (h : b.size ≤ 5000) (hw : Hd.wf (Hd.mk d id ttl src dst sp dp)) (e : hPutE (Hd.mk d id ttl src dst sp dp) b = 0) (hs : (hPutS (Hd.mk d id ttl src dst sp dp) b).size = 28 + b.size) (hm : 0 ≤ IntKind.wrap IntKind.i64 (Int.tmod k0 20) ∧ IntKind.wrap IntKind.i64 (Int.tmod k0 20) < 20) (hW : (withZ (hPutS (Hd.mk d id ttl src dst sp dp) b) (Int.toNat (IntKind.wrap IntKind.i64 (Int.tmod k0 20))) c).size = 28 + b.size) (ff : (((withZ (hPutS (Hd.mk d id ttl src dst sp dp) b) (Int.toNat (IntKind.wrap IntKind.i64 (Int.tmod k0 20))) c).toList == (hPutS (Hd.mk d id ttl src dst sp dp) b).toList) == (tkE (withZ (hPutS (Hd.mk d id ttl src dst sp dp) b) (Int.toNat (IntKind.wrap IntKind.i64 (Int.tmod k0 20))) c) == 0)) = true) : LawOk Try.prog 4 ([.nv (.agg [.val (.int .u8 d), .val (.int .u16 id), .val (.int .u8 ttl), .val (.int .u32 src), .val (.int .u32 dst), .val (.int .u16 sp), .val (.int .u16 dp)]), sA b, .nv (.agg [.val (.int .u8 k0), .val (.int .u8 c)])]) ([]) (bA true) :=
  law_run GhK_ok Try.func4 (orc := ⟨[false, false, false, true], []⟩) (obl := [(0 : Int) ≤ (0 : Int),
      (0 : Int) < (↑(2 : Nat) : Int),
      (0 : Int) ≤ (1 : Int),
      (1 : Int) < (↑(2 : Nat) : Int),
      decide ((↑(ByteArray.size b) : Int) > (5000 : Int)) = false,
      Hd.wf { d := d, id := id, ttl := ttl, src := src, dst := dst, sp := sp, dp := dp },
      (hPutE { d := d, id := id, ttl := ttl, src := src, dst := dst, sp := sp, dp := dp } b != (0 : Int)) = false,
      decide ((↑(ByteArray.size (hPutS { d := d, id := id, ttl := ttl, src := src, dst := dst, sp := sp, dp := dp } b)) : Int) < (28 : Int)) = false,
      (20 : Int) ≠ (0 : Int),
      (0 : Int) ≤ IntKind.wrap IntKind.i64 (Int.tmod k0 (20 : Int)),
      IntKind.wrap IntKind.i64 (Int.tmod k0 (20 : Int)) < (↑(ByteArray.size (hPutS { d := d, id := id, ttl := ttl, src := src, dst := dst, sp := sp, dp := dp } b)) : Int),
      ByteArray.size (hPutS { d := d, id := id, ttl := ttl, src := src, dst := dst, sp := sp, dp := dp } b) ≤ (70000 : Nat),
      (0 : Int) ≤ c,
      c ≤ (255 : Int),
      ByteArray.size (withZ (hPutS { d := d, id := id, ttl := ttl, src := src, dst := dst, sp := sp, dp := dp } b) (Int.toNat (IntKind.wrap IntKind.i64 (Int.tmod k0 (20 : Int)))) c) ≤ (140737488355328 : Nat),
      ((ByteArray.toList (withZ (hPutS { d := d, id := id, ttl := ttl, src := src, dst := dst, sp := sp, dp := dp } b) (Int.toNat (IntKind.wrap IntKind.i64 (Int.tmod k0 (20 : Int)))) c) == ByteArray.toList (hPutS { d := d, id := id, ttl := ttl, src := src, dst := dst, sp := sp, dp := dp } b)) == (tkE (withZ (hPutS { d := d, id := id, ttl := ttl, src := src, dst := dst, sp := sp, dp := dp } b) (Int.toNat (IntKind.wrap IntKind.i64 (Int.tmod k0 (20 : Int)))) c) == (0 : Int))) = true,
      true = true]) (by kernel_rfl) (.cons (by trivial) (.cons (by trivial) (.cons (by trivial) (.cons (by trivial) (.cons (by exact decide_eq_false (by omega)) (.cons (by assumption) (.cons (by exact bne_eq_false_iff_eq.2 e) (.cons (by exact decide_eq_false (by omega)) (.cons (by trivial) (.cons (by omega) (.cons (by omega) (.cons (by omega) (.cons (by omega) (.cons (by omega) (.cons (by omega) (.cons (by assumption) (.cons (by rfl) .nil)))))))))))))))))

set_option maxHeartbeats 2000000 in
theorem ht_l (d id ttl src dst sp dp : Int) (b : ByteArray) (x : Int) (h : 5000 < b.size) : LawOk Try.prog 6 ([.nv (.agg [.val (.int .u8 d), .val (.int .u16 id), .val (.int .u8 ttl), .val (.int .u32 src), .val (.int .u32 dst), .val (.int .u16 sp), .val (.int .u16 dp)]), sA b, .nv (.one (.val (.int .u8 x)))]) ([]) (bA true) :=
  law_run GhK_ok Try.func6 (orc := ⟨[true], []⟩) (obl := [decide ((↑(ByteArray.size b) : Int) > (5000 : Int)) = true,
      true = true]) (by kernel_rfl) (.cons (by exact decide_eq_true (by omega)) (.cons (by rfl) .nil))

set_option maxHeartbeats 2000000 in
theorem ht_e (d id ttl src dst sp dp : Int) (b : ByteArray) (x : Int) (h : b.size ≤ 5000) (hw : Hd.wf (Hd.mk d id ttl src dst sp dp)) (e : hPutE (Hd.mk d id ttl src dst sp dp) b ≠ 0) : LawOk Try.prog 6 ([.nv (.agg [.val (.int .u8 d), .val (.int .u16 id), .val (.int .u8 ttl), .val (.int .u32 src), .val (.int .u32 dst), .val (.int .u16 sp), .val (.int .u16 dp)]), sA b, .nv (.one (.val (.int .u8 x)))]) ([]) (bA true) :=
  law_run GhK_ok Try.func6 (orc := ⟨[false, true], []⟩) (obl := [decide ((↑(ByteArray.size b) : Int) > (5000 : Int)) = false,
      Hd.wf { d := d, id := id, ttl := ttl, src := src, dst := dst, sp := sp, dp := dp },
      (hPutE { d := d, id := id, ttl := ttl, src := src, dst := dst, sp := sp, dp := dp } b != (0 : Int)) = true,
      true = true]) (by kernel_rfl) (.cons (by exact decide_eq_false (by omega)) (.cons (by assumption) (.cons (by exact bne_iff_ne.2 e) (.cons (by rfl) .nil))))

set_option maxHeartbeats 2000000 in
theorem ht_k (d id ttl src dst sp dp : Int) (b : ByteArray) (x : Int) (h : b.size ≤ 5000) (hw : Hd.wf (Hd.mk d id ttl src dst sp dp)) (e : hPutE (Hd.mk d id ttl src dst sp dp) b = 0) (hx : 0 ≤ Int.tmod x 64 ∧ Int.tmod x 64 ≤ 63) (hg : Hd.wf (Hd.mk (Int.tmod x 64) id ttl src dst sp dp)) (hs : (hPutS (Hd.mk d id ttl src dst sp dp) b).size = 28 + b.size) (hM : (mkS (hPutS (Hd.mk d id ttl src dst sp dp) b) (Int.tmod x 64)).size ≤ 70000) (m1 : ((mkS (hPutS (Hd.mk d id ttl src dst sp dp) b) (Int.tmod x 64)).toList == (hPutS (Hd.mk (Int.tmod x 64) id ttl src dst sp dp) b).toList) = true) (m2 : mkE (hPutS (Hd.mk d id ttl src dst sp dp) b) (Int.tmod x 64) = 0) (t : ttl < 2) (y1 : ((hoS (mkS (hPutS (Hd.mk d id ttl src dst sp dp) b) (Int.tmod x 64))).toList == ByteArray.toList ⟨#[]⟩) = true) (y2 : (hoE (mkS (hPutS (Hd.mk d id ttl src dst sp dp) b) (Int.tmod x 64)) == 21) = true) : LawOk Try.prog 6 ([.nv (.agg [.val (.int .u8 d), .val (.int .u16 id), .val (.int .u8 ttl), .val (.int .u32 src), .val (.int .u32 dst), .val (.int .u16 sp), .val (.int .u16 dp)]), sA b, .nv (.one (.val (.int .u8 x)))]) ([]) (bA true) :=
  law_run GhK_ok Try.func6 (orc := ⟨[false, false, false, false, true, true, true], []⟩) (obl := [decide ((↑(ByteArray.size b) : Int) > (5000 : Int)) = false,
      Hd.wf { d := d, id := id, ttl := ttl, src := src, dst := dst, sp := sp, dp := dp },
      (hPutE { d := d, id := id, ttl := ttl, src := src, dst := dst, sp := sp, dp := dp } b != (0 : Int)) = false,
      (64 : Int) ≠ (0 : Int),
      Hd.wf { d := Int.tmod x (64 : Int), id := id, ttl := ttl, src := src, dst := dst, sp := sp, dp := dp },
      ByteArray.size (hPutS { d := d, id := id, ttl := ttl, src := src, dst := dst, sp := sp, dp := dp } b) ≤ (70000 : Nat),
      (0 : Int) ≤ Int.tmod x (64 : Int),
      Int.tmod x (64 : Int) ≤ (255 : Int),
      (!ByteArray.toList (mkS (hPutS { d := d, id := id, ttl := ttl, src := src, dst := dst, sp := sp, dp := dp } b) (Int.tmod x (64 : Int))) == ByteArray.toList (hPutS { d := Int.tmod x (64 : Int), id := id, ttl := ttl, src := src, dst := dst, sp := sp, dp := dp } b)) = false,
      (mkE (hPutS { d := d, id := id, ttl := ttl, src := src, dst := dst, sp := sp, dp := dp } b) (Int.tmod x (64 : Int)) != (0 : Int)) = false,
      ByteArray.size (mkS (hPutS { d := d, id := id, ttl := ttl, src := src, dst := dst, sp := sp, dp := dp } b) (Int.tmod x (64 : Int))) ≤ (70000 : Nat),
      decide (ttl < (2 : Int)) = true,
      (ByteArray.toList (hoS (mkS (hPutS { d := d, id := id, ttl := ttl, src := src, dst := dst, sp := sp, dp := dp } b) (Int.tmod x (64 : Int)))) == ByteArray.toList (ByteArray.mk #[])) = true,
      (hoE (mkS (hPutS { d := d, id := id, ttl := ttl, src := src, dst := dst, sp := sp, dp := dp } b) (Int.tmod x (64 : Int))) == (21 : Int)) = true,
      true = true]) (by kernel_rfl) (.cons (by exact decide_eq_false (by omega)) (.cons (by assumption) (.cons (by exact bne_eq_false_iff_eq.2 e) (.cons (by trivial) (.cons (by assumption) (.cons (by omega) (.cons (by omega) (.cons (by omega) (.cons (by exact congrArg not m1) (.cons (by exact bne_eq_false_iff_eq.2 m2) (.cons (by assumption) (.cons (by exact decide_eq_true (by omega)) (.cons (by assumption) (.cons (by assumption) (.cons (by rfl) .nil)))))))))))))))

set_option maxHeartbeats 2000000 in
theorem ht_m (d id ttl src dst sp dp : Int) (b : ByteArray) (x : Int) (h : b.size ≤ 5000) (hw : Hd.wf (Hd.mk d id ttl src dst sp dp)) (e : hPutE (Hd.mk d id ttl src dst sp dp) b = 0) (hx : 0 ≤ Int.tmod x 64 ∧ Int.tmod x 64 ≤ 63) (hg : Hd.wf (Hd.mk (Int.tmod x 64) id ttl src dst sp dp)) (hs : (hPutS (Hd.mk d id ttl src dst sp dp) b).size = 28 + b.size) (hM : (mkS (hPutS (Hd.mk d id ttl src dst sp dp) b) (Int.tmod x 64)).size ≤ 70000) (m1 : ((mkS (hPutS (Hd.mk d id ttl src dst sp dp) b) (Int.tmod x 64)).toList == (hPutS (Hd.mk (Int.tmod x 64) id ttl src dst sp dp) b).toList) = true) (m2 : mkE (hPutS (Hd.mk d id ttl src dst sp dp) b) (Int.tmod x 64) = 0) (t : ¬ (ttl < 2)) (hg2 : Hd.wf (Hd.mk (Int.tmod x 64) id (IntKind.wrap IntKind.u8 (ttl - 1)) src dst sp dp)) (hY : (hoS (hPutS (Hd.mk d id ttl src dst sp dp) b)).size ≤ 70000) (y1 : ((hoS (mkS (hPutS (Hd.mk d id ttl src dst sp dp) b) (Int.tmod x 64))).toList == (hPutS (Hd.mk (Int.tmod x 64) id (IntKind.wrap IntKind.u8 (ttl - 1)) src dst sp dp) b).toList) = true) (y2 : (hoE (mkS (hPutS (Hd.mk d id ttl src dst sp dp) b) (Int.tmod x 64)) == 0) = true) (y3 : ((mkS (hoS (hPutS (Hd.mk d id ttl src dst sp dp) b)) (Int.tmod x 64)).toList == (hPutS (Hd.mk (Int.tmod x 64) id (IntKind.wrap IntKind.u8 (ttl - 1)) src dst sp dp) b).toList) = true) : LawOk Try.prog 6 ([.nv (.agg [.val (.int .u8 d), .val (.int .u16 id), .val (.int .u8 ttl), .val (.int .u32 src), .val (.int .u32 dst), .val (.int .u16 sp), .val (.int .u16 dp)]), sA b, .nv (.one (.val (.int .u8 x)))]) ([]) (bA true) :=
  law_run GhK_ok Try.func6 (orc := ⟨[false, false, false, false, false, true, true, true], []⟩) (obl := [decide ((↑(ByteArray.size b) : Int) > (5000 : Int)) = false,
      Hd.wf { d := d, id := id, ttl := ttl, src := src, dst := dst, sp := sp, dp := dp },
      (hPutE { d := d, id := id, ttl := ttl, src := src, dst := dst, sp := sp, dp := dp } b != (0 : Int)) = false,
      (64 : Int) ≠ (0 : Int),
      Hd.wf { d := Int.tmod x (64 : Int), id := id, ttl := ttl, src := src, dst := dst, sp := sp, dp := dp },
      ByteArray.size (hPutS { d := d, id := id, ttl := ttl, src := src, dst := dst, sp := sp, dp := dp } b) ≤ (70000 : Nat),
      (0 : Int) ≤ Int.tmod x (64 : Int),
      Int.tmod x (64 : Int) ≤ (255 : Int),
      (!ByteArray.toList (mkS (hPutS { d := d, id := id, ttl := ttl, src := src, dst := dst, sp := sp, dp := dp } b) (Int.tmod x (64 : Int))) == ByteArray.toList (hPutS { d := Int.tmod x (64 : Int), id := id, ttl := ttl, src := src, dst := dst, sp := sp, dp := dp } b)) = false,
      (mkE (hPutS { d := d, id := id, ttl := ttl, src := src, dst := dst, sp := sp, dp := dp } b) (Int.tmod x (64 : Int)) != (0 : Int)) = false,
      ByteArray.size (mkS (hPutS { d := d, id := id, ttl := ttl, src := src, dst := dst, sp := sp, dp := dp } b) (Int.tmod x (64 : Int))) ≤ (70000 : Nat),
      decide (ttl < (2 : Int)) = false,
      Hd.wf { d := Int.tmod x (64 : Int), id := id, ttl := IntKind.wrap IntKind.u8 (ttl - (1 : Int)), src := src, dst := dst, sp := sp, dp := dp },
      ByteArray.size (hPutS { d := d, id := id, ttl := ttl, src := src, dst := dst, sp := sp, dp := dp } b) ≤ (70000 : Nat),
      ByteArray.size (hoS (hPutS { d := d, id := id, ttl := ttl, src := src, dst := dst, sp := sp, dp := dp } b)) ≤ (70000 : Nat),
      (0 : Int) ≤ Int.tmod x (64 : Int),
      Int.tmod x (64 : Int) ≤ (255 : Int),
      (ByteArray.toList (hoS (mkS (hPutS { d := d, id := id, ttl := ttl, src := src, dst := dst, sp := sp, dp := dp } b) (Int.tmod x (64 : Int)))) == ByteArray.toList (hPutS { d := Int.tmod x (64 : Int), id := id, ttl := IntKind.wrap IntKind.u8 (ttl - (1 : Int)), src := src, dst := dst, sp := sp, dp := dp } b)) = true,
      (hoE (mkS (hPutS { d := d, id := id, ttl := ttl, src := src, dst := dst, sp := sp, dp := dp } b) (Int.tmod x (64 : Int))) == (0 : Int)) = true,
      (ByteArray.toList (mkS (hoS (hPutS { d := d, id := id, ttl := ttl, src := src, dst := dst, sp := sp, dp := dp } b)) (Int.tmod x (64 : Int))) == ByteArray.toList (hPutS { d := Int.tmod x (64 : Int), id := id, ttl := IntKind.wrap IntKind.u8 (ttl - (1 : Int)), src := src, dst := dst, sp := sp, dp := dp } b)) = true,
      true = true]) (by kernel_rfl) (.cons (by exact decide_eq_false (by omega)) (.cons (by assumption) (.cons (by exact bne_eq_false_iff_eq.2 e) (.cons (by trivial) (.cons (by assumption) (.cons (by omega) (.cons (by omega) (.cons (by omega) (.cons (by exact congrArg not m1) (.cons (by exact bne_eq_false_iff_eq.2 m2) (.cons (by assumption) (.cons (by exact decide_eq_false (by omega)) (.cons (by assumption) (.cons (by omega) (.cons (by assumption) (.cons (by omega) (.cons (by omega) (.cons (by assumption) (.cons (by assumption) (.cons (by assumption) (.cons (by rfl) .nil)))))))))))))))))))))
end Go.Proofs.Yteehpliloegkgaa
