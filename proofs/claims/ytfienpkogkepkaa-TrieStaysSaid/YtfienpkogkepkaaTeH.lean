/- Runs of Go code, as printed by a program: no condition beyond those that each states. -/
import Derived.Test.YtfienpkogkepkaaTeD
import Derived.Test.YtfienpkogkepkaaChecked
import Derived.KernelRfl
namespace Go.Proofs.Ytfienpkogkepkaa
set_option linter.unusedVariables false
set_option linter.unusedSimpArgs false
set_option maxRecDepth 100000
open Go.RowKit E
attribute [local irreducible] bl8 bl32 wdN msk
set_option maxHeartbeats 2000000 in
theorem rt_l (a n : Int) (h0 : ¬ n ≥ 0) : PureOk Try.prog 20 ([.nv (.agg [.val (.int .u32 (a)), .val (.int .i64 (n))])]) (bA false) :=
  pure_run Gt0_ok Try.func20 (orc := ⟨[false, false], []⟩) (obl := [decide (n ≥ (0 : Int)) = false,
      false = false,
      false = false]) (by kernel_rfl) (.cons (by exact decide_eq_false h0) (.cons (by rfl) (.cons (by rfl) .nil)))

set_option maxHeartbeats 2000000 in
theorem rt_h (a n : Int) (h0 : n ≥ 0) (h1 : ¬ n ≤ 32) : PureOk Try.prog 20 ([.nv (.agg [.val (.int .u32 (a)), .val (.int .i64 (n))])]) (bA false) :=
  pure_run Gt0_ok Try.func20 (orc := ⟨[true, false], []⟩) (obl := [decide (n ≥ (0 : Int)) = true,
      decide (n ≤ (32 : Int)) = false,
      false = false]) (by kernel_rfl) (.cons (by exact decide_eq_true h0) (.cons (by exact decide_eq_false h1) (.cons (by rfl) .nil)))

set_option maxHeartbeats 2000000 in
theorem rt_m (a n : Int) (b : Bool) (h0 : n ≥ 0) (h1 : n ≤ 32) (hb : (bits .andNot .u32 a (msk n) == 0) = b) : PureOk Try.prog 20 ([.nv (.agg [.val (.int .u32 (a)), .val (.int .i64 (n))])]) (bA b) :=
  pure_run Gt0_ok Try.func20 (orc := ⟨[true, true], []⟩) (obl := [decide (n ≥ (0 : Int)) = true,
      decide (n ≤ (32 : Int)) = true,
      (0 : Int) ≤ n,
      n ≤ (32 : Int),
      (bits BinOp.andNot IntKind.u32 a (msk n) == (0 : Int)) = b]) (by kernel_rfl) (.cons (by exact decide_eq_true h0) (.cons (by exact decide_eq_true h1) (.cons (by assumption) (.cons (by assumption) (.cons (by assumption) .nil)))))

set_option maxHeartbeats 2000000 in
theorem lz_f (x r : Int) (ha : 0 ≤ x) (ha2 : x ≤ 4294967295) (hr : IntKind.wrap .i64 (32 - bl32 x) = r) : PureOk Try.prog 32 ([.nv (.one (.val (.int .u32 (x))))]) (iA r) :=
  pure_run Gt0_ok Try.func32 (orc := ⟨[], []⟩) (obl := [(0 : Int) ≤ x,
      x ≤ (4294967295 : Int),
      IntKind.wrap IntKind.i64 ((32 : Int) - bl32 x) = r]) (by kernel_rfl) (.cons (by assumption) (.cons (by assumption) (.cons (by assumption) .nil)))
end Go.Proofs.Ytfienpkogkepkaa

/- addresses: Right, LeadingZeros32. No condition. -/
namespace Go.Proofs.Ytfienpkogkepkaa
set_option linter.unusedVariables false
set_option linter.unusedSimpArgs false
open Go.RowKit E
def rgt (a n : Int) : Bool := decide (0 ≤ n ∧ n ≤ 32) && decide (a % (wdN n : Int) = 0)
theorem rgt_iff {a n : Int} : rgt a n = true ↔ (0 ≤ n ∧ n ≤ 32) ∧ a % (wdN n : Int) = 0 := by
  unfold rgt; rw [Bool.and_eq_true, decide_eq_true_eq, decide_eq_true_eq]
theorem fnRight (a n : Int) (ha : 0 ≤ a ∧ a ≤ 4294967295) : PureOk Try.prog 20 [.nv (.agg [.val (.int .u32 a), .val (.int .i64 n)])] (bA (rgt a n)) := by
  unfold rgt
  by_cases h0 : n ≥ 0
  · by_cases h1 : n ≤ 32
    · refine rt_m a n _ h0 h1 ?_
      rw [andNot_msk ha ⟨h0, h1⟩, decide_eq_true (⟨h0, h1⟩ : 0 ≤ n ∧ n ≤ 32), Bool.true_and]
      rfl
    · rw [decide_eq_false (fun h => h1 h.2)]; exact rt_h a n h0 h1
  · rw [decide_eq_false (fun h => h0 h.1)]; exact rt_l a n h0
def gRight : List SV → Option (SV × List Prop)
  | [.nv (.agg [.val (.int .u32 a), .val (.int .i64 n)])] => some (bA (rgt a n), [0 ≤ a, a ≤ 4294967295])
  | _ => none
theorem spRight : SpOk Try.prog 20 (pureS gRight) := pureS_ok (by
  intro args r obl h ho
  unfold gRight at h
  split at h
  · simp only [Option.some.injEq, Prod.mk.injEq] at h
    obtain ⟨rfl, rfl⟩ := h
    exact ⟨rfl, rfl, fnRight _ _ ⟨ho.1, ho.2.1⟩⟩
  · cases h)
def gLz : List SV → Option (SV × List Prop)
  | [.nv (.one (.val (.int .u32 x)))] => some (iA (IntKind.wrap .i64 (32 - bl32 x)), [0 ≤ x, x ≤ 4294967295])
  | _ => none
theorem spLz : SpOk Try.prog 32 (pureS gLz) := pureS_ok (by
  intro args r obl h ho
  unfold gLz at h
  split at h
  · simp only [Option.some.injEq, Prod.mk.injEq] at h
    obtain ⟨rfl, rfl⟩ := h
    exact ⟨rfl, rfl, lz_f _ _ ho.1 ho.2.1 rfl⟩
  · cases h)
def Gt1 : List (FuncId × Sp) := (20, pureS gRight) :: (32, pureS gLz) :: Gt0
theorem Gt1_ok : CtxOk Try.prog Gt1 := ctx_cons (enter_of Try.func20 (by kernel_rfl) (by kernel_rfl)) spRight <|
  ctx_cons (enter_of Try.func32 (by kernel_rfl) (by kernel_rfl)) spLz Gt0_ok
end Go.Proofs.Ytfienpkogkepkaa

/- Runs of Go code, as printed by a program: no condition beyond those that each states. -/
namespace Go.Proofs.Ytfienpkogkepkaa
set_option linter.unusedVariables false
set_option linter.unusedSimpArgs false
set_option maxRecDepth 100000
open Go.RowKit E
attribute [local irreducible] bl8 bl32 wdN msk rgt
set_option maxHeartbeats 2000000 in
theorem hs_n (a n x : Int) (ha : 0 ≤ a) (ha2 : a ≤ 4294967295) (hr : rgt a n = false) : PureOk Try.prog 22 ([.nv (.agg [.val (.int .u32 (a)), .val (.int .i64 (n))]), .nv (.one (.val (.int .u32 (x))))]) (bA false) :=
  pure_run Gt1_ok Try.func22 (orc := ⟨[false], []⟩) (obl := [(0 : Int) ≤ a,
      a ≤ (4294967295 : Int),
      rgt a n = false,
      false = false]) (by kernel_rfl) (.cons (by assumption) (.cons (by assumption) (.cons (by assumption) (.cons (by rfl) .nil))))

set_option maxHeartbeats 2000000 in
theorem hs_y (a n x : Int) (b : Bool) (ha : 0 ≤ a) (ha2 : a ≤ 4294967295) (hr : rgt a n = true) (h0 : 0 ≤ n) (h1 : n ≤ 32) (hb : (bits .and .u32 x (msk n) == a) = b) : PureOk Try.prog 22 ([.nv (.agg [.val (.int .u32 (a)), .val (.int .i64 (n))]), .nv (.one (.val (.int .u32 (x))))]) (bA b) :=
  pure_run Gt1_ok Try.func22 (orc := ⟨[true], []⟩) (obl := [(0 : Int) ≤ a,
      a ≤ (4294967295 : Int),
      rgt a n = true,
      (0 : Int) ≤ n,
      n ≤ (32 : Int),
      (bits BinOp.and IntKind.u32 x (msk n) == a) = b]) (by kernel_rfl) (.cons (by assumption) (.cons (by assumption) (.cons (by assumption) (.cons (by assumption) (.cons (by assumption) (.cons (by assumption) .nil))))))
end Go.Proofs.Ytfienpkogkepkaa

/- addresses: Has. No condition. -/
namespace Go.Proofs.Ytfienpkogkepkaa
set_option linter.unusedVariables false
set_option linter.unusedSimpArgs false
open Go.RowKit E
def hasB (a n x : Int) : Bool := rgt a n && decide (x - x % (wdN n : Int) = a)
theorem fnHas (a n x : Int) (ha : 0 ≤ a ∧ a ≤ 4294967295) (hx : 0 ≤ x ∧ x ≤ 4294967295) : PureOk Try.prog 22 [.nv (.agg [.val (.int .u32 a), .val (.int .i64 n)]), .nv (.one (.val (.int .u32 x)))] (bA (hasB a n x)) := by
  unfold hasB
  cases hr : rgt a n with
  | false => exact hs_n a n x ha.1 ha.2 hr
  | true =>
    have h := (rgt_iff.1 hr).1
    refine hs_y a n x _ ha.1 ha.2 hr h.1 h.2 ?_
    rw [and_msk hx h, Bool.true_and]
    rfl
def gHas : List SV → Option (SV × List Prop)
  | [.nv (.agg [.val (.int .u32 a), .val (.int .i64 n)]), .nv (.one (.val (.int .u32 x)))] => some (bA (hasB a n x), [0 ≤ a, a ≤ 4294967295, 0 ≤ x, x ≤ 4294967295])
  | _ => none
theorem spHas : SpOk Try.prog 22 (pureS gHas) := pureS_ok (by
  intro args r obl h ho
  unfold gHas at h
  split at h
  · simp only [Option.some.injEq, Prod.mk.injEq] at h
    obtain ⟨rfl, rfl⟩ := h
    exact ⟨rfl, rfl, fnHas _ _ _ ⟨ho.1, ho.2.1⟩ ⟨ho.2.2.1, ho.2.2.2.1⟩⟩
  · cases h)
def Gt2 : List (FuncId × Sp) := (22, pureS gHas) :: Gt1
theorem Gt2_ok : CtxOk Try.prog Gt2 := ctx_cons (enter_of Try.func22 (by kernel_rfl) (by kernel_rfl)) spHas Gt1_ok
end Go.Proofs.Ytfienpkogkepkaa
