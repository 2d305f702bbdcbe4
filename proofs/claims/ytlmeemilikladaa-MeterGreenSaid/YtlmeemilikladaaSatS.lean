/- 64 by 64 bits: the upper half, as the library reckons it. No condition. -/
import Derived.Test.YtlmeemilikladaaE9
import Derived.Shelf.Bits.Mul64
import Derived.Test.YtlmeemilikladaaChecked
import Derived.KernelRfl
import Derived.Test.YtlmeemilikladaaEC
import Derived.Shelf.Spec.BitsCarry
namespace Go.Proofs.Ytlmeemilikladaa
set_option linter.unusedVariables false
set_option linter.unusedSimpArgs false
open Go.RowKit E

theorem fdiv32 (a : Int) : Int.fdiv a ((2 : Int) ^ (32 : Nat)) = a / 4294967296 := by
  rw [show ((2 : Int) ^ (32 : Nat)) = 4294967296 from rfl]; exact Int.fdiv_eq_ediv_of_nonneg a (by omega)
open Go.Proofs in
theorem mul_hi_expr (x y : Nat) (hx : x < 18446744073709551616) (hy : y < 18446744073709551616) : IntKind.wrap IntKind.u64 (IntKind.wrap IntKind.u64 (IntKind.wrap IntKind.u64 (Int.fdiv (↑x : Int) ((2 : Int) ^ (32 : Nat)) * Int.fdiv (↑y : Int) ((2 : Int) ^ (32 : Nat))) + Int.fdiv (IntKind.wrap IntKind.u64 (IntKind.wrap IntKind.u64 (Int.fdiv (↑x : Int) ((2 : Int) ^ (32 : Nat)) * bits BinOp.and IntKind.u64 (↑y : Int) (4294967295 : Int)) + Int.fdiv (IntKind.wrap IntKind.u64 (bits BinOp.and IntKind.u64 (↑x : Int) (4294967295 : Int) * bits BinOp.and IntKind.u64 (↑y : Int) (4294967295 : Int))) ((2 : Int) ^ (32 : Nat)))) ((2 : Int) ^ (32 : Nat))) + Int.fdiv (IntKind.wrap IntKind.u64 (bits BinOp.and IntKind.u64 (IntKind.wrap IntKind.u64 (IntKind.wrap IntKind.u64 (Int.fdiv (↑x : Int) ((2 : Int) ^ (32 : Nat)) * bits BinOp.and IntKind.u64 (↑y : Int) (4294967295 : Int)) + Int.fdiv (IntKind.wrap IntKind.u64 (bits BinOp.and IntKind.u64 (↑x : Int) (4294967295 : Int) * bits BinOp.and IntKind.u64 (↑y : Int) (4294967295 : Int))) ((2 : Int) ^ (32 : Nat)))) (4294967295 : Int) + IntKind.wrap IntKind.u64 (bits BinOp.and IntKind.u64 (↑x : Int) (4294967295 : Int) * Int.fdiv (↑y : Int) ((2 : Int) ^ (32 : Nat))))) ((2 : Int) ^ (32 : Nat))) = (↑(x * y / (18446744073709551616 : Nat)) : Int) := by
  obtain ⟨bd, bt, bw, hhi⟩ := Go.Lib.mul64_hi x y hx hy
  have ba := Go.Lib.half_mul_le (a := x / 4294967296) (b := y / 4294967296) (by omega) (by omega)
  have bb := Go.Lib.half_mul_le (a := x / 4294967296) (b := y % 4294967296) (by omega) (by omega)
  have bc := Go.Lib.half_mul_le (a := x % 4294967296) (b := y / 4294967296) (by omega) (by omega)
  have ba' : x / 4294967296 * (y / 4294967296) < 18446744073709551616 := by omega
  have bb' : x / 4294967296 * (y % 4294967296) < 18446744073709551616 := by omega
  have bc' : x % 4294967296 * (y / 4294967296) < 18446744073709551616 := by omega
  have bh1 : x / 4294967296 * (y / 4294967296) + (x / 4294967296 * (y % 4294967296) + x % 4294967296 * (y % 4294967296) / 4294967296) / 4294967296 < 18446744073709551616 := by omega
  have bh : x / 4294967296 * (y / 4294967296) + (x / 4294967296 * (y % 4294967296) + x % 4294967296 * (y % 4294967296) / 4294967296) / 4294967296 + ((x / 4294967296 * (y % 4294967296) + x % 4294967296 * (y % 4294967296) / 4294967296) % 4294967296 + x % 4294967296 * (y / 4294967296)) / 4294967296 < 18446744073709551616 := by omega
  simp only [fdiv32, Mul64.maskN x hx, Mul64.maskN y hy, Mul64.divN, Mul64.mulN, Mul64.addN, Mul64.wrapN _ bd, Mul64.wrapN _ bb', Mul64.wrapN _ bt, Mul64.maskN _ bt, Mul64.wrapN _ bc', Mul64.wrapN _ bw, Mul64.wrapN _ ba', Mul64.wrapN _ bh1, Mul64.wrapN _ bh]
  rw [hhi]
theorem mul_lo_expr (x y : Nat) : IntKind.wrap IntKind.u64 ((x : Int) * (y : Int)) = ((x * y % 18446744073709551616 : Nat) : Int) := by
  rw [← Int.natCast_mul]; exact Go.Proofs.Mul64.wrapM (x * y)
end Go.Proofs.Ytlmeemilikladaa

/- Runs of Go code, as printed by a program: no condition beyond those that each states. -/
namespace Go.Proofs.Ytlmeemilikladaa
set_option linter.unusedVariables false
set_option linter.unusedSimpArgs false
set_option maxRecDepth 100000
open Go.RowKit E
set_option maxHeartbeats 2000000 in
theorem mul64 (x y : Nat) (hx : x < 18446744073709551616) (hy : y < 18446744073709551616) : PureOk Try.prog 26 ([.nv (.one (.val (.int .u64 x))), .nv (.one (.val (.int .u64 y)))]) (.tup [.one (.val (.int .u64 ((x * y / 18446744073709551616 : Nat) : Int))), .one (.val (.int .u64 ((x * y % 18446744073709551616 : Nat) : Int)))]) :=
  pure_run G0_ok Try.func26 (orc := ⟨[], []⟩) (obl := [(0 : Int) ≤ (32 : Int),
      (0 : Int) ≤ (32 : Int),
      (0 : Int) ≤ (32 : Int),
      (0 : Int) ≤ (32 : Int),
      (0 : Int) ≤ (32 : Int),
      IntKind.wrap IntKind.u64 (IntKind.wrap IntKind.u64 (IntKind.wrap IntKind.u64 (Int.fdiv (↑x : Int) ((2 : Int) ^ (32 : Nat)) * Int.fdiv (↑y : Int) ((2 : Int) ^ (32 : Nat))) + Int.fdiv (IntKind.wrap IntKind.u64 (IntKind.wrap IntKind.u64 (Int.fdiv (↑x : Int) ((2 : Int) ^ (32 : Nat)) * bits BinOp.and IntKind.u64 (↑y : Int) (4294967295 : Int)) + Int.fdiv (IntKind.wrap IntKind.u64 (bits BinOp.and IntKind.u64 (↑x : Int) (4294967295 : Int) * bits BinOp.and IntKind.u64 (↑y : Int) (4294967295 : Int))) ((2 : Int) ^ (32 : Nat)))) ((2 : Int) ^ (32 : Nat))) + Int.fdiv (IntKind.wrap IntKind.u64 (bits BinOp.and IntKind.u64 (IntKind.wrap IntKind.u64 (IntKind.wrap IntKind.u64 (Int.fdiv (↑x : Int) ((2 : Int) ^ (32 : Nat)) * bits BinOp.and IntKind.u64 (↑y : Int) (4294967295 : Int)) + Int.fdiv (IntKind.wrap IntKind.u64 (bits BinOp.and IntKind.u64 (↑x : Int) (4294967295 : Int) * bits BinOp.and IntKind.u64 (↑y : Int) (4294967295 : Int))) ((2 : Int) ^ (32 : Nat)))) (4294967295 : Int) + IntKind.wrap IntKind.u64 (bits BinOp.and IntKind.u64 (↑x : Int) (4294967295 : Int) * Int.fdiv (↑y : Int) ((2 : Int) ^ (32 : Nat))))) ((2 : Int) ^ (32 : Nat))) = (↑(x * y / (18446744073709551616 : Nat)) : Int),
      IntKind.wrap IntKind.u64 ((↑x : Int) * (↑y : Int)) = (↑(x * y % (18446744073709551616 : Nat)) : Int)]) (by kernel_rfl) (.cons (by trivial) (.cons (by trivial) (.cons (by trivial) (.cons (by trivial) (.cons (by trivial) (.cons (by exact mul_hi_expr x y hx hy) (.cons (by rfl) .nil)))))))
end Go.Proofs.Ytlmeemilikladaa

/- math/bits.Mul64, Add64, Sub64: what each gives, for the symbolic run. No condition. -/
namespace Go.Proofs.Ytlmeemilikladaa
set_option linter.unusedVariables false
set_option linter.unusedSimpArgs false
open Go.RowKit E

def gMul64 : List SV → Option (SV × List Prop)
  | [.nv (.one (.val (.int .u64 x))), .nv (.one (.val (.int .u64 y)))] =>
    some (.tup [.one (.val (.int .u64 (x * y / 18446744073709551616))), .one (.val (.int .u64 (x * y % 18446744073709551616)))], [0 ≤ x, x ≤ 18446744073709551615, 0 ≤ y, y ≤ 18446744073709551615])
  | _ => none
theorem spMul64 : SpOk Try.prog 26 (pureS gMul64) := pureS_ok (by
  intro args r obl h ho
  unfold gMul64 at h
  split at h
  · rename_i x y
    simp only [Option.some.injEq, Prod.mk.injEq] at h
    obtain ⟨rfl, rfl⟩ := h
    simp only [AllT, and_true] at ho
    obtain ⟨h1, h2, h3, h4⟩ := ho
    refine ⟨rfl, rfl, ?_⟩
    obtain ⟨x, rfl⟩ := Int.eq_ofNat_of_zero_le h1
    obtain ⟨y, rfl⟩ := Int.eq_ofNat_of_zero_le h3
    exact mul64 x y (by omega) (by omega)
  · cases h)
def gAdd64 : List SV → Option (SV × List Prop)
  | [.nv (.one (.val (.int .u64 x))), .nv (.one (.val (.int .u64 y))), .nv (.one (.val (.int .u64 c)))] =>
    some (.tup [.one (.val (.int .u64 ((x + y + c) % 18446744073709551616))), .one (.val (.int .u64 ((x + y + c) / 18446744073709551616)))], [0 ≤ x, 0 ≤ y, 0 ≤ c, c ≤ 1])
  | _ => none
def gSub64 : List SV → Option (SV × List Prop)
  | [.nv (.one (.val (.int .u64 x))), .nv (.one (.val (.int .u64 y))), .nv (.one (.val (.int .u64 c)))] =>
    some (.tup [.one (.val (.int .u64 ((x - y - c) % 18446744073709551616))), .one (.val (.int .u64 (if x < y + c then 1 else 0)))], [0 ≤ x, x ≤ 18446744073709551615, 0 ≤ y, y ≤ 18446744073709551615, 0 ≤ c, c ≤ 1])
  | _ => none
theorem three_vals {args : List SV} {x y c : Int} (ha : args = [.nv (.one (.val (.int .u64 x))), .nv (.one (.val (.int .u64 y))), .nv (.one (.val (.int .u64 c)))]) (env : Env) (us : List Value) (h : AllSV env args us) : us.toArray = #[.int .u64 x, .int .u64 y, .int .u64 c] := by
  subst ha
  match us, h with
  | [a, b, d], ⟨h1, h2, h3, _⟩ => rw [show a = _ from h1, show b = _ from h2, show d = _ from h3]
theorem exAdd64 : ExtOk Try.prog 34 (pureS gAdd64) := ext_ok (by
  intro args r obl h ho
  unfold gAdd64 at h
  split at h
  · rename_i x y c
    simp only [Option.some.injEq, Prod.mk.injEq] at h
    obtain ⟨rfl, rfl⟩ := h
    simp only [AllT, and_true] at ho
    obtain ⟨h1, h2, h3, h4⟩ := ho
    refine ⟨_, three_vals rfl, .tuple #[.int .u64 ((x + y + c) % 18446744073709551616), .int .u64 ((x + y + c) / 18446744073709551616)], fun env => ⟨_, rfl, rfl, rfl, trivial⟩, fun w => ?_⟩
    rw [run_callFunc_extern Try.func34 (by kernel_rfl) (by kernel_rfl) (by kernel_rfl) (e := add64Entry) (by kernel_rfl), run_add64 x y c h1 h2 h3 h4]
    rfl
  · cases h)
theorem exSub64 : ExtOk Try.prog 27 (pureS gSub64) := ext_ok (by
  intro args r obl h ho
  unfold gSub64 at h
  split at h
  · rename_i x y c
    simp only [Option.some.injEq, Prod.mk.injEq] at h
    obtain ⟨rfl, rfl⟩ := h
    simp only [AllT, and_true] at ho
    obtain ⟨h1, h2, h3, h4, h5, h6⟩ := ho
    obtain ⟨x, rfl⟩ := Int.eq_ofNat_of_zero_le h1
    obtain ⟨y, rfl⟩ := Int.eq_ofNat_of_zero_le h3
    obtain ⟨c, rfl⟩ := Int.eq_ofNat_of_zero_le h5
    refine ⟨_, three_vals rfl, .tuple #[.int .u64 (((x : Int) - y - c) % 18446744073709551616), .int .u64 (if (x : Int) < y + c then 1 else 0)], fun env => ⟨_, rfl, rfl, rfl, trivial⟩, fun w => ?_⟩
    rw [run_callFunc_extern Try.func27 (by kernel_rfl) (by kernel_rfl) (by kernel_rfl) (e := sub64Entry) (by kernel_rfl), run_sub64 x y c (by omega)]
    have e1 : ((((x + 18446744073709551616 - y - c) % 18446744073709551616 : Nat)) : Int) = ((x : Int) - y - c) % 18446744073709551616 := by omega
    have e2 : (((if x < y + c then 1 else 0 : Nat)) : Int) = if (x : Int) < y + c then 1 else 0 := by split <;> split <;> omega
    rw [e1, e2]
    rfl
  · cases h)
end Go.Proofs.Ytlmeemilikladaa

/- The functions of the machine and of math/bits, as a context. No condition. -/
namespace Go.Proofs.Ytlmeemilikladaa
set_option linter.unusedVariables false
set_option linter.unusedSimpArgs false
open Go.RowKit E

def Gb : List (FuncId × Sp) := [(26, pureS gMul64), (34, pureS gAdd64), (27, pureS gSub64)]
theorem Gb_ok : CtxOk Try.prog Gb := ctx_cons (enter_of Try.func26 (by kernel_rfl) (by kernel_rfl)) spMul64 <| ctx_ext exAdd64 <| ctx_ext exSub64 G0_ok
end Go.Proofs.Ytlmeemilikladaa

/- Runs of Go code, as printed by a program: no condition beyond those that each states. -/
namespace Go.Proofs.Ytlmeemilikladaa
set_option linter.unusedVariables false
set_option linter.unusedSimpArgs false
set_option maxRecDepth 100000
open Go.RowKit E
set_option maxHeartbeats 2000000 in
theorem sadd_y (x y : Int) (hx : 0 ≤ x ∧ x ≤ 18446744073709551615) (hy : 0 ≤ y ∧ y ≤ 18446744073709551615) (h : x + y ≤ 18446744073709551615) : PureOk Try.prog 31 ([.nv (.one (.val (.int .u64 x))), .nv (.one (.val (.int .u64 y)))]) (.nv (.one (.val (.int .u64 (x + y))))) :=
  pure_run Gb_ok Try.func31 (orc := ⟨[false], []⟩) (obl := [(0 : Int) ≤ x,
      (0 : Int) ≤ y,
      (0 : Int) ≤ (0 : Int),
      (0 : Int) ≤ (1 : Int),
      decide ((x + y + (0 : Int)) / (18446744073709551616 : Int) > (0 : Int)) = false,
      (x + y + (0 : Int)) % (18446744073709551616 : Int) = x + y]) (by kernel_rfl) (.cons (by omega) (.cons (by omega) (.cons (by trivial) (.cons (by trivial) (.cons (by exact decide_eq_false (by omega)) (.cons (by omega) .nil))))))

set_option maxHeartbeats 2000000 in
theorem sadd_n (x y : Int) (hx : 0 ≤ x ∧ x ≤ 18446744073709551615) (hy : 0 ≤ y ∧ y ≤ 18446744073709551615) (h : 18446744073709551615 < x + y) : PureOk Try.prog 31 ([.nv (.one (.val (.int .u64 x))), .nv (.one (.val (.int .u64 y)))]) (.nv (.one (.val (.int .u64 18446744073709551615)))) :=
  pure_run Gb_ok Try.func31 (orc := ⟨[true], []⟩) (obl := [(0 : Int) ≤ x,
      (0 : Int) ≤ y,
      (0 : Int) ≤ (0 : Int),
      (0 : Int) ≤ (1 : Int),
      decide ((x + y + (0 : Int)) / (18446744073709551616 : Int) > (0 : Int)) = true,
      (18446744073709551615 : Int) = (18446744073709551615 : Int)]) (by kernel_rfl) (.cons (by omega) (.cons (by omega) (.cons (by trivial) (.cons (by trivial) (.cons (by exact decide_eq_true (by omega)) (.cons (by rfl) .nil))))))

set_option maxHeartbeats 2000000 in
theorem smul_y (x y : Int) (hx : 0 ≤ x ∧ x ≤ 18446744073709551615) (hy : 0 ≤ y ∧ y ≤ 18446744073709551615) (h0 : 0 ≤ x * y) (h : x * y ≤ 18446744073709551615) : PureOk Try.prog 32 ([.nv (.one (.val (.int .u64 x))), .nv (.one (.val (.int .u64 y)))]) (.nv (.one (.val (.int .u64 (x * y))))) :=
  pure_run Gb_ok Try.func32 (orc := ⟨[false], []⟩) (obl := [(0 : Int) ≤ x,
      x ≤ (18446744073709551615 : Int),
      (0 : Int) ≤ y,
      y ≤ (18446744073709551615 : Int),
      decide (x * y / (18446744073709551616 : Int) > (0 : Int)) = false,
      x * y % (18446744073709551616 : Int) = x * y]) (by kernel_rfl) (.cons (by omega) (.cons (by omega) (.cons (by omega) (.cons (by omega) (.cons (by exact decide_eq_false (by omega)) (.cons (by omega) .nil))))))

set_option maxHeartbeats 2000000 in
theorem smul_n (x y : Int) (hx : 0 ≤ x ∧ x ≤ 18446744073709551615) (hy : 0 ≤ y ∧ y ≤ 18446744073709551615) (h : 18446744073709551615 < x * y) : PureOk Try.prog 32 ([.nv (.one (.val (.int .u64 x))), .nv (.one (.val (.int .u64 y)))]) (.nv (.one (.val (.int .u64 18446744073709551615)))) :=
  pure_run Gb_ok Try.func32 (orc := ⟨[true], []⟩) (obl := [(0 : Int) ≤ x,
      x ≤ (18446744073709551615 : Int),
      (0 : Int) ≤ y,
      y ≤ (18446744073709551615 : Int),
      decide (x * y / (18446744073709551616 : Int) > (0 : Int)) = true,
      (18446744073709551615 : Int) = (18446744073709551615 : Int)]) (by kernel_rfl) (.cons (by omega) (.cons (by omega) (.cons (by omega) (.cons (by omega) (.cons (by exact decide_eq_true (by omega)) (.cons (by rfl) .nil))))))
end Go.Proofs.Ytlmeemilikladaa

/- sat.Add, sat.Mul: what each gives. No condition. -/
namespace Go.Proofs.Ytlmeemilikladaa
set_option linter.unusedVariables false
set_option linter.unusedSimpArgs false
open Go.RowKit E

def capU (x : Int) : Int := if x ≤ 18446744073709551615 then x else 18446744073709551615
theorem capU_bd {x : Int} (h : 0 ≤ x) : 0 ≤ capU x ∧ capU x ≤ 18446744073709551615 := by unfold capU; split <;> omega
def gSAdd : List SV → Option (SV × List Prop)
  | [.nv (.one (.val (.int .u64 x))), .nv (.one (.val (.int .u64 y)))] => some (uA (capU (x + y)), [0 ≤ x, x ≤ 18446744073709551615, 0 ≤ y, y ≤ 18446744073709551615])
  | _ => none
def gSMul : List SV → Option (SV × List Prop)
  | [.nv (.one (.val (.int .u64 x))), .nv (.one (.val (.int .u64 y)))] => some (uA (capU (x * y)), [0 ≤ x, x ≤ 18446744073709551615, 0 ≤ y, y ≤ 18446744073709551615])
  | _ => none
theorem spSAdd : SpOk Try.prog 31 (pureS gSAdd) := pureS_ok (by
  intro args r obl h ho
  unfold gSAdd at h
  split at h
  · rename_i x y
    simp only [Option.some.injEq, Prod.mk.injEq] at h
    obtain ⟨rfl, rfl⟩ := h
    simp only [AllT, and_true] at ho
    refine ⟨rfl, rfl, ?_⟩
    by_cases e : x + y ≤ 18446744073709551615
    · rw [capU, if_pos e]; exact sadd_y x y ⟨ho.1, ho.2.1⟩ ho.2.2 e
    · rw [capU, if_neg e]; exact sadd_n x y ⟨ho.1, ho.2.1⟩ ho.2.2 (by omega)
  · cases h)
theorem spSMul : SpOk Try.prog 32 (pureS gSMul) := pureS_ok (by
  intro args r obl h ho
  unfold gSMul at h
  split at h
  · rename_i x y
    simp only [Option.some.injEq, Prod.mk.injEq] at h
    obtain ⟨rfl, rfl⟩ := h
    simp only [AllT, and_true] at ho
    refine ⟨rfl, rfl, ?_⟩
    by_cases e : x * y ≤ 18446744073709551615
    · rw [capU, if_pos e]; exact smul_y x y ⟨ho.1, ho.2.1⟩ ho.2.2 (Int.mul_nonneg ho.1 ho.2.2.1) e
    · rw [capU, if_neg e]; exact smul_n x y ⟨ho.1, ho.2.1⟩ ho.2.2 (by omega)
  · cases h)
def Gs : List (FuncId × Sp) := (31, pureS gSAdd) :: (32, pureS gSMul) :: Gb
theorem Gs_ok : CtxOk Try.prog Gs := ctx_cons (enter_of Try.func31 (by kernel_rfl) (by kernel_rfl)) spSAdd <| ctx_cons (enter_of Try.func32 (by kernel_rfl) (by kernel_rfl)) spSMul Gb_ok
end Go.Proofs.Ytlmeemilikladaa
