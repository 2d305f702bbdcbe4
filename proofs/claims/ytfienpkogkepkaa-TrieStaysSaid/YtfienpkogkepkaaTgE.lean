/- Runs of Go code, as printed by a program: no condition beyond those that each states. -/
import Derived.Test.YtfienpkogkepkaaTgA
import Derived.Test.YtfienpkogkepkaaChecked
import Derived.KernelRfl
namespace Go.Proofs.Ytfienpkogkepkaa
set_option linter.unusedVariables false
set_option linter.unusedSimpArgs false
set_option maxRecDepth 100000
open Go.RowKit E
attribute [local irreducible] bl8 bl32 wdN msk rgt hasB
set_option maxHeartbeats 2000000 in
theorem fs_r (v i v' i' : Int) (h : i < 32) (hw : IntKind.wrap .u64 (Int.tdiv v 2) = v') (hr : IntKind.wrap .i64 (i + 1) = i') : CodeOk Try.prog 0 (loopOf Try.f25 0) (mkSt 17 [(5, uA v), (6, iA i)] []) .normal (mkSt 17 [(5, uA v'), (6, iA i')] []) :=
  code_run Gt3_ok (orc := ⟨[true], []⟩) (obl := [decide (i < (32 : Int)) = true,
      (2 : Int) ≠ (0 : Int),
      IntKind.wrap IntKind.u64 (Int.tdiv v (2 : Int)) = v',
      IntKind.wrap IntKind.i64 (i + (1 : Int)) = i']) (by kernel_rfl) (.cons (by exact decide_eq_true h) (.cons (by trivial) (.cons (by assumption) (.cons (by assumption) .nil)))) (Nat.le_of_ble_eq_true (by kernel_rfl))

set_option maxHeartbeats 2000000 in
theorem fs_x (v i : Int) (h : ¬ i < 32) : CodeOk Try.prog 0 (loopOf Try.f25 0) (mkSt 17 [(5, uA v), (6, iA i)] []) (.exit 0) (mkSt 17 [(5, uA v)] []) :=
  code_run Gt3_ok (orc := ⟨[false], []⟩) (obl := [decide (i < (32 : Int)) = false,
      v = v]) (by kernel_rfl) (.cons (by exact decide_eq_false h) (.cons (by rfl) .nil)) (Nat.le_of_ble_eq_true (by kernel_rfl))

set_option maxHeartbeats 2000000 in
theorem fs_f (a n r : Int) (ha : 0 ≤ a) (ha2 : a ≤ 4294967295) (l0 : CodeOk Try.prog 0 (.loop (loopOf Try.f25 0)) (mkSt 17 [(5, uA a), (6, iA n)] []) (.exit 0) (mkSt 17 [(5, uA r)] [])) (hw : IntKind.wrap .u64 a = a) : PureOk Try.prog 25 ([.nv (.one (.val (.int .u32 a))), iA n]) (uA r) :=
  pure_run Gt3_ok Try.func25 (orc := ⟨[], [⟨mkSt 17 [(5, uA a), (6, iA n)] [], .exit 0, mkSt 17 [(5, uA r)] []⟩]⟩) (obl := [IntKind.wrap IntKind.u64 a = a,
      n = n,
      (0 : Nat) ≤ (0 : Nat),
      CodeOk Try.prog (0 : Nat) (Code.loop (loopOf Try.f25 (0 : Nat))) (mkSt (17 : Nat) [((5 : Nat), uA a), ((6 : Nat), iA n)] []) (Ex.exit (0 : Nat)) (mkSt (17 : Nat) [((5 : Nat), uA r)] []),
      r = r]) (by kernel_rfl) (.cons (by assumption) (.cons (by rfl) (.cons (by trivial) (.cons (by assumption) (.cons (by rfl) .nil)))))

set_option maxHeartbeats 2000000 in
theorem rs_r (a n v i v' i' : Int) (h : i < 32) (hw : IntKind.wrap .u64 (v * 2) = v') (hr : IntKind.wrap .i64 (i + 1) = i') : CodeOk Try.prog 0 (loopOf Try.f24 0) (mkSt 31 [(1, .nv (.one (.ptr 0 0))), (3, uA v), (4, iA i)] [.box 28 [.val (.int .u32 a), .val (.int .i64 n)]]) .normal (mkSt 31 [(1, .nv (.one (.ptr 0 0))), (3, uA v'), (4, iA i')] [.box 28 [.val (.int .u32 a), .val (.int .i64 n)]]) :=
  code_run Gt3_ok (orc := ⟨[true], []⟩) (obl := [decide (i < (32 : Int)) = true,
      (0 : Nat) = (0 : Nat),
      IntKind.wrap IntKind.u64 (v * (2 : Int)) = v',
      IntKind.wrap IntKind.i64 (i + (1 : Int)) = i',
      a = a,
      n = n]) (by kernel_rfl) (.cons (by exact decide_eq_true h) (.cons (by rfl) (.cons (by assumption) (.cons (by assumption) (.cons (by rfl) (.cons (by rfl) .nil)))))) (Nat.le_of_ble_eq_true (by kernel_rfl))

set_option maxHeartbeats 2000000 in
theorem rs_x (a n v i : Int) (h : ¬ i < 32) : CodeOk Try.prog 0 (loopOf Try.f24 0) (mkSt 31 [(1, .nv (.one (.ptr 0 0))), (3, uA v), (4, iA i)] [.box 28 [.val (.int .u32 a), .val (.int .i64 n)]]) (.exit 0) (mkSt 31 [(1, .nv (.one (.ptr 0 0))), (3, uA v)] [.box 28 [.val (.int .u32 a), .val (.int .i64 n)]]) :=
  code_run Gt3_ok (orc := ⟨[false], []⟩) (obl := [decide (i < (32 : Int)) = false,
      (0 : Nat) = (0 : Nat),
      v = v,
      a = a,
      n = n]) (by kernel_rfl) (.cons (by exact decide_eq_false h) (.cons (by rfl) (.cons (by rfl) (.cons (by rfl) (.cons (by rfl) .nil))))) (Nat.le_of_ble_eq_true (by kernel_rfl))
end Go.Proofs.Ytfienpkogkepkaa

/- addresses: the document's First. No condition. -/
namespace Go.Proofs.Ytfienpkogkepkaa
set_option linter.unusedVariables false
set_option linter.unusedSimpArgs false
open Go.RowKit E
theorem fs_loop : ∀ (k : Nat) (v i : Int), i + k = 32 → 0 ≤ v → v ≤ 4294967295 → 0 ≤ i → LoopOk Try.prog 0 (loopOf Try.f25 0) (mkSt 17 [(5, uA v), (6, iA i)] []) (.exit 0) (mkSt 17 [(5, uA (v / ((2 ^ k : Nat) : Int)))] [])
  | 0, v, i, hk, h1, h2, h3 => by
    have := LoopOk.last (by simp) (fs_x v i (by omega))
    rw [Nat.pow_zero, Int.natCast_one, Int.ediv_one]
    exact this
  | k + 1, v, i, hk, h1, h2, h3 => by
    have e : Int.tdiv v 2 = v / 2 := Int.tdiv_eq_ediv_of_nonneg h1
    have h := fs_loop k (v / 2) (i + 1) (by omega) (by omega) (by omega) (by omega)
    have e2 : v / ((2 ^ (k + 1) : Nat) : Int) = v / 2 / ((2 ^ k : Nat) : Int) := by
      rw [Int.ediv_ediv_of_nonneg (by omega), Nat.pow_succ, Nat.mul_comm]; push_cast; rfl
    rw [e2]
    exact LoopOk.step (fs_r v i (v / 2) (i + 1) (by omega) (by rw [e]; exact wU64 (by omega) (by omega)) (w64 rfl (by omega))) h
theorem fnFirst31 {a n : Int} (ha : 0 ≤ a ∧ a ≤ 4294967295) (hn : 0 ≤ n ∧ n ≤ 32) : PureOk Try.prog 25 [.nv (.one (.val (.int .u32 a))), iA n] (uA (a / (wdN n : Int))) :=
  fs_f a n _ ha.1 ha.2 (fs_loop (32 - n).toNat a n (by omega) ha.1 ha.2 hn.1).code (wU64 rfl (by omega))
def gFirst31 : List SV → Option (SV × List Prop)
  | [.nv (.one (.val (.int .u32 a))), .nv (.one (.val (.int .i64 n)))] => some (uA (a / (wdN n : Int)), [0 ≤ a, a ≤ 4294967295, 0 ≤ n, n ≤ 32])
  | _ => none
theorem spFirst31 : SpOk Try.prog 25 (pureS gFirst31) := pureS_ok (by
  intro args r obl h ho
  unfold gFirst31 at h
  split at h
  · simp only [Option.some.injEq, Prod.mk.injEq] at h
    obtain ⟨rfl, rfl⟩ := h
    exact ⟨rfl, rfl, fnFirst31 ⟨ho.1, ho.2.1⟩ ⟨ho.2.2.1, ho.2.2.2.1⟩⟩
  · cases h)
def GrA : List (FuncId × Sp) := (25, pureS gFirst31) :: Gt3
theorem GrA_ok : CtxOk Try.prog GrA := ctx_cons (enter_of Try.func25 (by kernel_rfl) (by kernel_rfl)) spFirst31 Gt3_ok
end Go.Proofs.Ytfienpkogkepkaa

/- Runs of Go code, as printed by a program: no condition beyond those that each states. -/
namespace Go.Proofs.Ytfienpkogkepkaa
set_option linter.unusedVariables false
set_option linter.unusedSimpArgs false
set_option maxRecDepth 100000
open Go.RowKit E
set_option maxHeartbeats 2000000 in
theorem rs_lo (a n : Int) (h : n < 0) : PureOk Try.prog 24 ([.nv (.agg [.val (.int .u32 a), .val (.int .i64 n)])]) (bA false) :=
  pure_run GrA_ok Try.func24 (orc := ⟨[true, true], []⟩) (obl := [decide (n < (0 : Int)) = true,
      true = true,
      false = false]) (by kernel_rfl) (.cons (by exact decide_eq_true h) (.cons (by rfl) (.cons (by rfl) .nil)))

set_option maxHeartbeats 2000000 in
theorem rs_hi (a n : Int) (h : ¬ n < 0) (q : n > 32) : PureOk Try.prog 24 ([.nv (.agg [.val (.int .u32 a), .val (.int .i64 n)])]) (bA false) :=
  pure_run GrA_ok Try.func24 (orc := ⟨[false, true], []⟩) (obl := [decide (n < (0 : Int)) = false,
      decide (n > (32 : Int)) = true,
      false = false]) (by kernel_rfl) (.cons (by exact decide_eq_false h) (.cons (by exact decide_eq_true q) (.cons (by rfl) .nil)))

set_option maxHeartbeats 2000000 in
theorem rs_f (a n r : Int) (b : Bool) (ha : 0 ≤ a) (ha2 : a ≤ 4294967295) (h : ¬ n < 0) (q : ¬ n > 32) (q1 : 0 ≤ n) (q2 : n ≤ 32) (hw : IntKind.wrap .u64 a = a) (l0 : CodeOk Try.prog 0 (.loop (loopOf Try.f24 0)) (mkSt 31 [(1, .nv (.one (.ptr 0 0))), (3, uA (a / (wdN n : Int))), (4, iA n)] [.box 28 [.val (.int .u32 a), .val (.int .i64 n)]]) (.exit 0) (mkSt 31 [(1, .nv (.one (.ptr 0 0))), (3, uA r)] [.box 28 [.val (.int .u32 a), .val (.int .i64 n)]])) (e1 : (r == IntKind.wrap .u64 a) = b) : PureOk Try.prog 24 ([.nv (.agg [.val (.int .u32 a), .val (.int .i64 n)])]) (bA b) :=
  pure_run GrA_ok Try.func24 (orc := ⟨[false, false], [⟨mkSt 31 [(1, .nv (.one (.ptr 0 0))), (3, uA (a / (wdN n : Int))), (4, iA n)] [.box 28 [.val (.int .u32 a), .val (.int .i64 n)]], .exit 0, mkSt 31 [(1, .nv (.one (.ptr 0 0))), (3, uA r)] [.box 28 [.val (.int .u32 a), .val (.int .i64 n)]]⟩]⟩) (obl := [decide (n < (0 : Int)) = false,
      decide (n > (32 : Int)) = false,
      (0 : Int) ≤ a,
      a ≤ (4294967295 : Int),
      (0 : Int) ≤ n,
      n ≤ (32 : Int),
      (0 : Nat) = (0 : Nat),
      a / (↑(wdN n) : Int) = a / (↑(wdN n) : Int),
      n = n,
      a = a,
      n = n,
      (0 : Nat) ≤ (1 : Nat),
      CodeOk Try.prog (0 : Nat) (Code.loop (loopOf Try.f24 (0 : Nat))) (mkSt (31 : Nat) [((1 : Nat), SV.nv (NV.one (At.ptr (0 : Nat) (0 : Nat)))), ((3 : Nat), uA (a / (↑(wdN n) : Int))), ((4 : Nat), iA n)] [Seg.box (28 : TypeId) [At.val (Value.int IntKind.u32 a), At.val (Value.int IntKind.i64 n)]]) (Ex.exit (0 : Nat)) (mkSt (31 : Nat) [((1 : Nat), SV.nv (NV.one (At.ptr (0 : Nat) (0 : Nat)))), ((3 : Nat), uA r)] [Seg.box (28 : TypeId) [At.val (Value.int IntKind.u32 a), At.val (Value.int IntKind.i64 n)]]),
      (r == IntKind.wrap IntKind.u64 a) = b]) (by kernel_rfl) (.cons (by exact decide_eq_false h) (.cons (by exact decide_eq_false q) (.cons (by assumption) (.cons (by assumption) (.cons (by assumption) (.cons (by assumption) (.cons (by rfl) (.cons (by rfl) (.cons (by rfl) (.cons (by rfl) (.cons (by rfl) (.cons (by trivial) (.cons (by assumption) (.cons (by assumption) .nil))))))))))))))

set_option maxHeartbeats 2000000 in
theorem ah_1 (a n b m : Int) (h : a < b) : PureOk Try.prog 27 ([.nv (.agg [.val (.int .u32 a), .val (.int .i64 n)]), .nv (.agg [.val (.int .u32 b), .val (.int .i64 m)])]) (bA true) :=
  pure_run Gt3_ok Try.func27 (orc := ⟨[true], []⟩) (obl := [decide (a < b) = true,
      true = true]) (by kernel_rfl) (.cons (by exact decide_eq_true h) (.cons (by rfl) .nil))

set_option maxHeartbeats 2000000 in
theorem ah_2 (a n b m : Int) (h : ¬ a < b) (q : (a == b) = false) : PureOk Try.prog 27 ([.nv (.agg [.val (.int .u32 a), .val (.int .i64 n)]), .nv (.agg [.val (.int .u32 b), .val (.int .i64 m)])]) (bA false) :=
  pure_run Gt3_ok Try.func27 (orc := ⟨[false, false], []⟩) (obl := [decide (a < b) = false,
      (a == b) = false,
      false = false]) (by kernel_rfl) (.cons (by exact decide_eq_false h) (.cons (by assumption) (.cons (by rfl) .nil)))

set_option maxHeartbeats 2000000 in
theorem ah_3 (a n b m : Int) (r : Bool) (h : ¬ a < b) (q : (a == b) = true) (e1 : decide (n < m) = r) : PureOk Try.prog 27 ([.nv (.agg [.val (.int .u32 a), .val (.int .i64 n)]), .nv (.agg [.val (.int .u32 b), .val (.int .i64 m)])]) (bA r) :=
  pure_run Gt3_ok Try.func27 (orc := ⟨[false, true], []⟩) (obl := [decide (a < b) = false,
      (a == b) = true,
      decide (n < m) = r]) (by kernel_rfl) (.cons (by exact decide_eq_false h) (.cons (by assumption) (.cons (by assumption) .nil)))
end Go.Proofs.Ytfienpkogkepkaa

/- addresses: the document's Right, ahead. No condition. -/
namespace Go.Proofs.Ytfienpkogkepkaa
set_option linter.unusedVariables false
set_option linter.unusedSimpArgs false
open Go.RowKit E
theorem rs_loop (a n : Int) : ∀ (k : Nat) (v i : Int), i + k = 32 → 0 ≤ v → v * ((2 ^ k : Nat) : Int) ≤ 4294967295 → 0 ≤ i → LoopOk Try.prog 0 (loopOf Try.f24 0) (mkSt 31 [(1, .nv (.one (.ptr 0 0))), (3, uA v), (4, iA i)] [.box 28 [.val (.int .u32 a), .val (.int .i64 n)]]) (.exit 0) (mkSt 31 [(1, .nv (.one (.ptr 0 0))), (3, uA (v * ((2 ^ k : Nat) : Int)))] [.box 28 [.val (.int .u32 a), .val (.int .i64 n)]])
  | 0, v, i, hk, h1, h2, h3 => by
    have := LoopOk.last (by simp) (rs_x a n v i (by omega))
    rw [Nat.pow_zero, Int.natCast_one, Int.mul_one]
    exact this
  | k + 1, v, i, hk, h1, h2, h3 => by
    have e2 : v * ((2 ^ (k + 1) : Nat) : Int) = (v * 2) * ((2 ^ k : Nat) : Int) := by
      rw [Nat.pow_succ, Nat.mul_comm]; push_cast; rw [Int.mul_assoc]
    rw [e2] at h2 ⊢
    have hp : (1 : Int) ≤ ((2 ^ k : Nat) : Int) := by have := Nat.two_pow_pos k; omega
    have hv : v * 2 ≤ 4294967295 := Int.le_trans (by have := Int.mul_le_mul_of_nonneg_left hp (show (0 : Int) ≤ v * 2 by omega); rw [Int.mul_one] at this; exact this) h2
    have h := rs_loop a n k (v * 2) (i + 1) (by omega) (by omega) h2 (by omega)
    exact LoopOk.step (rs_r a n v i (v * 2) (i + 1) (by omega) (wU64 rfl (by omega)) (w64 rfl (by omega))) h
theorem fnRight31 {a n : Int} (ha : 0 ≤ a ∧ a ≤ 4294967295) : PureOk Try.prog 24 [.nv (.agg [.val (.int .u32 a), .val (.int .i64 n)])] (bA (rgt a n)) := by
  by_cases h1 : n < 0
  · have e : rgt a n = false := by rw [Bool.eq_false_iff]; intro h; have := (rgt_iff.1 h).1; omega
    rw [e]; exact rs_lo a n h1
  · by_cases h2 : n > 32
    · have e : rgt a n = false := by rw [Bool.eq_false_iff]; intro h; have := (rgt_iff.1 h).1; omega
      rw [e]; exact rs_hi a n h1 h2
    · have hw := wdN_pos n
      have hle : a / (wdN n : Int) * (wdN n : Int) ≤ a := Int.ediv_mul_le a (by omega)
      have hl := (rs_loop a n (32 - n).toNat (a / (wdN n : Int)) n (by omega) (Int.ediv_nonneg ha.1 (by omega)) (by show a / (wdN n : Int) * (wdN n : Int) ≤ _; omega) (by omega)).code
      refine rs_f a n _ _ ha.1 ha.2 h1 h2 (by omega) (by omega) (wU64 rfl (by omega)) hl ?_
      rw [show IntKind.wrap .u64 a = a from wU64 rfl (by omega)]
      show (a / (wdN n : Int) * (wdN n : Int) == a) = rgt a n
      have hd := Int.mul_ediv_add_emod a (wdN n : Int)
      rw [Int.mul_comm] at hd
      rw [Bool.eq_iff_iff, beq_iff_eq, rgt_iff]
      constructor
      · intro h; exact ⟨⟨by omega, by omega⟩, by omega⟩
      · intro h; omega
def gRight31 : List SV → Option (SV × List Prop)
  | [.nv (.agg [.val (.int .u32 a), .val (.int .i64 n)])] => some (bA (rgt a n), [0 ≤ a, a ≤ 4294967295])
  | _ => none
theorem spRight31 : SpOk Try.prog 24 (pureS gRight31) := pureS_ok (by
  intro args r obl h ho
  unfold gRight31 at h
  split at h
  · simp only [Option.some.injEq, Prod.mk.injEq] at h
    obtain ⟨rfl, rfl⟩ := h
    exact ⟨rfl, rfl, fnRight31 ⟨ho.1, ho.2.1⟩⟩
  · cases h)
/-- Which prefix stands first. -/
def ahB (a n b m : Int) : Bool := decide (a < b) || (a == b && decide (n < m))
theorem fnAhead (a n b m : Int) : PureOk Try.prog 27 [.nv (.agg [.val (.int .u32 a), .val (.int .i64 n)]), .nv (.agg [.val (.int .u32 b), .val (.int .i64 m)])] (bA (ahB a n b m)) := by
  unfold ahB
  by_cases h : a < b
  · rw [decide_eq_true h]; exact ah_1 a n b m h
  · rw [decide_eq_false h, Bool.false_or]
    cases q : (a == b) with
    | true => rw [Bool.true_and]; exact ah_3 a n b m _ h q rfl
    | false => rw [Bool.false_and]; exact ah_2 a n b m h q
def gAhead : List SV → Option (SV × List Prop)
  | [.nv (.agg [.val (.int .u32 a), .val (.int .i64 n)]), .nv (.agg [.val (.int .u32 b), .val (.int .i64 m)])] => some (bA (ahB a n b m), [])
  | _ => none
theorem spAhead : SpOk Try.prog 27 (pureS gAhead) := pureS_ok (by
  intro args r obl h ho
  unfold gAhead at h
  split at h
  · simp only [Option.some.injEq, Prod.mk.injEq] at h
    obtain ⟨rfl, rfl⟩ := h
    exact ⟨rfl, rfl, fnAhead _ _ _ _⟩
  · cases h)
def GrB : List (FuncId × Sp) := (24, pureS gRight31) :: (27, pureS gAhead) :: GrA
theorem GrB_ok : CtxOk Try.prog GrB := ctx_cons (enter_of Try.func24 (by kernel_rfl) (by kernel_rfl)) spRight31 <|
  ctx_cons (enter_of Try.func27 (by kernel_rfl) (by kernel_rfl)) spAhead GrA_ok
end Go.Proofs.Ytfienpkogkepkaa

/- Runs of Go code, as printed by a program: no condition beyond those that each states. -/
namespace Go.Proofs.Ytfienpkogkepkaa
set_option linter.unusedVariables false
set_option linter.unusedSimpArgs false
set_option maxRecDepth 100000
open Go.RowKit E
set_option maxHeartbeats 2000000 in
theorem hs31_n (a n x : Int) (ha : 0 ≤ a) (ha2 : a ≤ 4294967295) (hr : rgt a n = false) : PureOk Try.prog 10 ([.nv (.agg [.val (.int .u32 a), .val (.int .i64 n)]), .nv (.one (.val (.int .u32 x)))]) (bA false) :=
  pure_run GrB_ok Try.func10 (orc := ⟨[false], []⟩) (obl := [(0 : Int) ≤ a,
      a ≤ (4294967295 : Int),
      rgt a n = false,
      false = false]) (by kernel_rfl) (.cons (by assumption) (.cons (by assumption) (.cons (by assumption) (.cons (by rfl) .nil))))

set_option maxHeartbeats 2000000 in
theorem hs31_y (a n x : Int) (r : Bool) (ha : 0 ≤ a) (ha2 : a ≤ 4294967295) (hx : 0 ≤ x) (hx2 : x ≤ 4294967295) (hr : rgt a n = true) (h0 : 0 ≤ n) (h1 : n ≤ 32) (e1 : (a / (wdN n : Int) == x / (wdN n : Int)) = r) : PureOk Try.prog 10 ([.nv (.agg [.val (.int .u32 a), .val (.int .i64 n)]), .nv (.one (.val (.int .u32 x)))]) (bA r) :=
  pure_run GrB_ok Try.func10 (orc := ⟨[true], []⟩) (obl := [(0 : Int) ≤ a,
      a ≤ (4294967295 : Int),
      rgt a n = true,
      (0 : Int) ≤ a,
      a ≤ (4294967295 : Int),
      (0 : Int) ≤ n,
      n ≤ (32 : Int),
      (0 : Int) ≤ x,
      x ≤ (4294967295 : Int),
      (0 : Int) ≤ n,
      n ≤ (32 : Int),
      (a / (↑(wdN n) : Int) == x / (↑(wdN n) : Int)) = r]) (by kernel_rfl) (.cons (by assumption) (.cons (by assumption) (.cons (by assumption) (.cons (by assumption) (.cons (by assumption) (.cons (by assumption) (.cons (by assumption) (.cons (by assumption) (.cons (by assumption) (.cons (by assumption) (.cons (by assumption) (.cons (by assumption) .nil))))))))))))
end Go.Proofs.Ytfienpkogkepkaa

/- addresses: the document's Has; its entries. No condition. -/
namespace Go.Proofs.Ytfienpkogkepkaa
set_option linter.unusedVariables false
set_option linter.unusedSimpArgs false
open Go.RowKit E
theorem fnHas31 {a n x : Int} (ha : 0 ≤ a ∧ a ≤ 4294967295) (hx : 0 ≤ x ∧ x ≤ 4294967295) : PureOk Try.prog 10 [.nv (.agg [.val (.int .u32 a), .val (.int .i64 n)]), .nv (.one (.val (.int .u32 x)))] (bA (hasB a n x)) := by
  unfold hasB
  cases hr : rgt a n with
  | false => exact hs31_n a n x ha.1 ha.2 hr
  | true =>
    obtain ⟨h, hm⟩ := rgt_iff.1 hr
    refine hs31_y a n x _ ha.1 ha.2 hx.1 hx.2 hr h.1 h.2 ?_
    rw [Bool.true_and]
    have hw := wdN_pos n
    have h1 := Int.mul_ediv_add_emod a (wdN n : Int)
    have h2 := Int.mul_ediv_add_emod x (wdN n : Int)
    rw [Bool.eq_iff_iff, beq_iff_eq, decide_eq_true_eq]
    constructor
    · intro e; rw [← e] at h2; omega
    · intro e
      have : (wdN n : Int) * (x / (wdN n : Int)) = (wdN n : Int) * (a / (wdN n : Int)) := by omega
      exact (Int.eq_of_mul_eq_mul_left (by omega) this).symm
def gHas31 : List SV → Option (SV × List Prop)
  | [.nv (.agg [.val (.int .u32 a), .val (.int .i64 n)]), .nv (.one (.val (.int .u32 x)))] => some (bA (hasB a n x), [0 ≤ a, a ≤ 4294967295, 0 ≤ x, x ≤ 4294967295])
  | _ => none
theorem spHas31 : SpOk Try.prog 10 (pureS gHas31) := pureS_ok (by
  intro args r obl h ho
  unfold gHas31 at h
  split at h
  · simp only [Option.some.injEq, Prod.mk.injEq] at h
    obtain ⟨rfl, rfl⟩ := h
    exact ⟨rfl, rfl, fnHas31 ⟨ho.1, ho.2.1⟩ ⟨ho.2.2.1, ho.2.2.2.1⟩⟩
  · cases h)
def GrC : List (FuncId × Sp) := (10, pureS gHas31) :: GrB
theorem GrC_ok : CtxOk Try.prog GrC := ctx_cons (enter_of Try.func10 (by kernel_rfl) (by kernel_rfl)) spHas31 GrB_ok
structure En where
  a : Int
  n : Int
  x : Int
def enC (e : En) : List At := [.val (.int .u32 e.a), .val (.int .i64 e.n), .val (.int .i64 e.x)]
abbrev gEn (L : Nat → En) : Nat → List At := fun k => [.val (.int .u32 (L k).a), .val (.int .i64 (L k).n), .val (.int .i64 (L k).x)]
def putE (F : Nat → En) (n : Nat) (e : En) : Nat → En := fun k => if k = n then e else F k
theorem leG_en (ρ : List (Nat × Bd)) (m : Nat) {F F' : Nat → En} {k : Nat} (h : F k = F' k) : AllT (leAts ρ m (gEn F k) (gEn F' k)) := by
  unfold gEn; rw [h]; exact ⟨rfl, rfl, rfl, trivial⟩
theorem enE {e : En} {a n x : Int} (h : e = ⟨a, n, x⟩) (ρ : List (Nat × Bd)) (m : Nat) : AllT (leAts ρ m [.val (.int .u32 a), .val (.int .i64 n), .val (.int .i64 x)] [.val (.int .u32 e.a), .val (.int .i64 e.n), .val (.int .i64 e.x)]) := by
  subst h; exact ⟨rfl, rfl, rfl, trivial⟩
/-- One entry more. -/
theorem app1_en {ρ : List (Nat × Bd)} {m n : Nat} {F F' : Nat → En} {a k x : Int} (h : ∀ j, j < n → F' j = F j) (hn : F' n = ⟨a, k, x⟩) : leG ρ m (n + 1) (appG n 1 (gEn F) (litG 3 [.val (.int .u32 a), .val (.int .i64 k), .val (.int .i64 x)])) (gEn F') := by
  intro j hj
  unfold appG
  simp only [if_true]
  by_cases e : j = n
  · subst e; rw [if_pos rfl]; exact enE hn ρ m
  · rw [if_neg e]; exact leG_en ρ m (h j (by omega)).symm
end Go.Proofs.Ytfienpkogkepkaa
