/- Functions of plain numbers, with what each gives. No condition. -/
import Derived.Test.YtkgkelfdmkginaaEC
import Derived.Test.YtkgkelfdmkginaaChecked
import Derived.Shelf.Bits.Mul64
import Derived.Shelf.Spec.BitsCarry
import Derived.KernelRfl
namespace Go.Proofs.Ytkgkelfdmkginaa
set_option linter.unusedVariables false
set_option linter.unusedSimpArgs false
set_option maxRecDepth 100000
open Go.RowKit E
theorem fdiv32 (a : Int) : Int.fdiv a ((2 : Int) ^ (32 : Nat)) = a / 4294967296 := by
  rw [show ((2 : Int) ^ (32 : Nat)) = 4294967296 from rfl]; exact Int.fdiv_eq_ediv_of_nonneg a (by omega)
open Go.Proofs in
theorem mul_hi_expr (x y : Nat) (hx : x < 18446744073709551616) (hy : y < 18446744073709551616) : IntKind.wrap IntKind.u64 (IntKind.wrap IntKind.u64 (IntKind.wrap IntKind.u64 (Int.fdiv (↑x : Int) ((2 : Int) ^ (32 : Nat)) * Int.fdiv (↑y : Int) ((2 : Int) ^ (32 : Nat))) + Int.fdiv (IntKind.wrap IntKind.u64 (IntKind.wrap IntKind.u64 (Int.fdiv (↑x : Int) ((2 : Int) ^ (32 : Nat)) * bits BinOp.and IntKind.u64 (↑y : Int) (4294967295 : Int)) + Int.fdiv (IntKind.wrap IntKind.u64 (bits BinOp.and IntKind.u64 (↑x : Int) (4294967295 : Int) * bits BinOp.and IntKind.u64 (↑y : Int) (4294967295 : Int))) ((2 : Int) ^ (32 : Nat)))) ((2 : Int) ^ (32 : Nat))) + Int.fdiv (IntKind.wrap IntKind.u64 (bits BinOp.and IntKind.u64 (IntKind.wrap IntKind.u64 (IntKind.wrap IntKind.u64 (Int.fdiv (↑x : Int) ((2 : Int) ^ (32 : Nat)) * bits BinOp.and IntKind.u64 (↑y : Int) (4294967295 : Int)) + Int.fdiv (IntKind.wrap IntKind.u64 (bits BinOp.and IntKind.u64 (↑x : Int) (4294967295 : Int) * bits BinOp.and IntKind.u64 (↑y : Int) (4294967295 : Int))) ((2 : Int) ^ (32 : Nat)))) (4294967295 : Int) + IntKind.wrap IntKind.u64 (bits BinOp.and IntKind.u64 (↑x : Int) (4294967295 : Int) * Int.fdiv (↑y : Int) ((2 : Int) ^ (32 : Nat))))) ((2 : Int) ^ (32 : Nat))) = (↑(x * y / (18446744073709551616 : Nat)) : Int) := by
  obtain ⟨bd, bt, bw, hhi⟩ := Go.Lib.mul64_hi x y hx hy
  have ba := Go.Lib.half_mul_le (a := x / 4294967296) (b := y / 4294967296) (by omega) (by omega)
  have bb := Go.Lib.half_mul_le (a := x / 4294967296) (b := y % 4294967296) (by omega) (by omega)
  have bc := Go.Lib.half_mul_le (a := x % 4294967296) (b := y / 4294967296) (by omega) (by omega)
  have ba' : x / 4294967296 * (y / 4294967296) < 18446744073709551616 := by omega
  have bb' : x / 4294967296 * (y % 4294967296) < 18446744073709551616 := by omega
  have bc' : x % 4294967296 * (y / 4294967296) < 18446744073709551616 := by omega
  have bh1 : x / 4294967296 * (y / 4294967296) + (x / 4294967296 * (y % 4294967296) + x % 4294967296 * (y % 4294967296) / 4294967296) / 4294967296 < 18446744073709551616 := by omega
  have bh : x / 4294967296 * (y / 4294967296) + (x / 4294967296 * (y % 4294967296) + x % 4294967296 * (y % 4294967296) / 4294967296) / 4294967296 + ((x / 4294967296 * (y % 4294967296) + x % 4294967296 * (y % 4294967296) / 4294967296) % 4294967296 + x % 4294967296 * (y / 4294967296)) / 4294967296 < 18446744073709551616 := by omega
  simp only [fdiv32, Mul64.maskN x hx, Mul64.maskN y hy, Mul64.divN, Mul64.mulN, Mul64.addN, Mul64.wrapN _ bd, Mul64.wrapN _ bb', Mul64.wrapN _ bt, Mul64.maskN _ bt, Mul64.wrapN _ bc', Mul64.wrapN _ bw, Mul64.wrapN _ ba', Mul64.wrapN _ bh1, Mul64.wrapN _ bh]
  rw [hhi]
theorem mul_lo_expr (x y : Nat) : IntKind.wrap IntKind.u64 ((x : Int) * (y : Int)) = ((x * y % 18446744073709551616 : Nat) : Int) := by
  rw [← Int.natCast_mul]; exact Go.Proofs.Mul64.wrapM (x * y)
set_option maxHeartbeats 2000000 in
theorem mul64 (x y : Nat) (hx : x < 18446744073709551616) (hy : y < 18446744073709551616) : PureOk Try.prog 41 ([.nv (.one (.val (.int .u64 x))), .nv (.one (.val (.int .u64 y)))]) (.tup [.one (.val (.int .u64 ((x * y / 18446744073709551616 : Nat) : Int))), .one (.val (.int .u64 ((x * y % 18446744073709551616 : Nat) : Int)))]) :=
  pure_run G0_ok Try.func41 (orc := ⟨[], []⟩) (obl := [(0 : Int) ≤ (32 : Int),
      (0 : Int) ≤ (32 : Int),
      (0 : Int) ≤ (32 : Int),
      (0 : Int) ≤ (32 : Int),
      (0 : Int) ≤ (32 : Int),
      IntKind.wrap IntKind.u64 (IntKind.wrap IntKind.u64 (IntKind.wrap IntKind.u64 (Int.fdiv (↑x : Int) ((2 : Int) ^ (32 : Nat)) * Int.fdiv (↑y : Int) ((2 : Int) ^ (32 : Nat))) + Int.fdiv (IntKind.wrap IntKind.u64 (IntKind.wrap IntKind.u64 (Int.fdiv (↑x : Int) ((2 : Int) ^ (32 : Nat)) * bits BinOp.and IntKind.u64 (↑y : Int) (4294967295 : Int)) + Int.fdiv (IntKind.wrap IntKind.u64 (bits BinOp.and IntKind.u64 (↑x : Int) (4294967295 : Int) * bits BinOp.and IntKind.u64 (↑y : Int) (4294967295 : Int))) ((2 : Int) ^ (32 : Nat)))) ((2 : Int) ^ (32 : Nat))) + Int.fdiv (IntKind.wrap IntKind.u64 (bits BinOp.and IntKind.u64 (IntKind.wrap IntKind.u64 (IntKind.wrap IntKind.u64 (Int.fdiv (↑x : Int) ((2 : Int) ^ (32 : Nat)) * bits BinOp.and IntKind.u64 (↑y : Int) (4294967295 : Int)) + Int.fdiv (IntKind.wrap IntKind.u64 (bits BinOp.and IntKind.u64 (↑x : Int) (4294967295 : Int) * bits BinOp.and IntKind.u64 (↑y : Int) (4294967295 : Int))) ((2 : Int) ^ (32 : Nat)))) (4294967295 : Int) + IntKind.wrap IntKind.u64 (bits BinOp.and IntKind.u64 (↑x : Int) (4294967295 : Int) * Int.fdiv (↑y : Int) ((2 : Int) ^ (32 : Nat))))) ((2 : Int) ^ (32 : Nat))) = (↑(x * y / (18446744073709551616 : Nat)) : Int),
      IntKind.wrap IntKind.u64 ((↑x : Int) * (↑y : Int)) = (↑(x * y % (18446744073709551616 : Nat)) : Int)]) (by kernel_rfl) (.cons (by trivial) (.cons (by trivial) (.cons (by trivial) (.cons (by trivial) (.cons (by trivial) (.cons (by exact mul_hi_expr x y hx hy) (.cons (by rfl) .nil)))))))
def gMul64 : List SV → Option (SV × List Prop)
  | [.nv (.one (.val (.int .u64 x))), .nv (.one (.val (.int .u64 y)))] =>
    some (.tup [.one (.val (.int .u64 (x * y / 18446744073709551616))), .one (.val (.int .u64 (x * y % 18446744073709551616)))], [0 ≤ x, x ≤ 18446744073709551615, 0 ≤ y, y ≤ 18446744073709551615])
  | _ => none
theorem spMul64 : SpOk Try.prog 41 (pureS gMul64) := pureS_ok (by
  intro args r obl h ho
  unfold gMul64 at h
  split at h
  · rename_i x y
    simp only [Option.some.injEq, Prod.mk.injEq] at h
    obtain ⟨rfl, rfl⟩ := h
    simp only [AllT, and_true] at ho
    obtain ⟨h1, h2, h3, h4⟩ := ho
    refine ⟨rfl, rfl, ?_⟩
    obtain ⟨x, rfl⟩ := Int.eq_ofNat_of_zero_le h1
    obtain ⟨y, rfl⟩ := Int.eq_ofNat_of_zero_le h3
    exact mul64 x y (by omega) (by omega)
  · cases h)
def RkA0 : List (FuncId × Sp) := (41, pureS gMul64) :: G0
theorem RkA0_ok : CtxOk Try.prog RkA0 := ctx_cons (enter_of Try.func41 (by kernel_rfl) (by kernel_rfl)) spMul64 G0_ok
theorem three_vals {args : List SV} {x y c : Int} (ha : args = [.nv (.one (.val (.int .u64 x))), .nv (.one (.val (.int .u64 y))), .nv (.one (.val (.int .u64 c)))]) (env : Env) (us : List Value) (h : AllSV env args us) : us.toArray = #[.int .u64 x, .int .u64 y, .int .u64 c] := by
  subst ha
  match us, h with
  | [a, b, d], ⟨h1, h2, h3, _⟩ => rw [show a = _ from h1, show b = _ from h2, show d = _ from h3]
def gAdd64 : List SV → Option (SV × List Prop)
  | [.nv (.one (.val (.int .u64 x))), .nv (.one (.val (.int .u64 y))), .nv (.one (.val (.int .u64 c)))] =>
    some (.tup [.one (.val (.int .u64 ((x + y + c) % 18446744073709551616))), .one (.val (.int .u64 ((x + y + c) / 18446744073709551616)))], [0 ≤ x, 0 ≤ y, 0 ≤ c, c ≤ 1])
  | _ => none
theorem exAdd64 : ExtOk Try.prog 35 (pureS gAdd64) := ext_ok (by
  intro args r obl h ho
  unfold gAdd64 at h
  split at h
  · rename_i x y c
    simp only [Option.some.injEq, Prod.mk.injEq] at h
    obtain ⟨rfl, rfl⟩ := h
    simp only [AllT, and_true] at ho
    obtain ⟨h1, h2, h3, h4⟩ := ho
    refine ⟨_, three_vals rfl, .tuple #[.int .u64 ((x + y + c) % 18446744073709551616), .int .u64 ((x + y + c) / 18446744073709551616)], fun env => ⟨_, rfl, rfl, rfl, trivial⟩, fun w => ?_⟩
    rw [run_callFunc_extern Try.func35 (by kernel_rfl) (by kernel_rfl) (by kernel_rfl) (e := add64Entry) (by kernel_rfl), run_add64 x y c h1 h2 h3 h4]
    rfl
  · cases h)
def RkA1 : List (FuncId × Sp) := (35, pureS gAdd64) :: RkA0
theorem RkA1_ok : CtxOk Try.prog RkA1 := ctx_ext exAdd64 RkA0_ok
def capU (x : Int) : Int := if x ≤ 18446744073709551615 then x else 18446744073709551615
theorem capU_bd {x : Int} (h : 0 ≤ x) : 0 ≤ capU x ∧ capU x ≤ 18446744073709551615 := by unfold capU; split <;> omega
set_option maxHeartbeats 2000000 in
theorem sadd_y (x y : Int) (hx : 0 ≤ x ∧ x ≤ 18446744073709551615) (hy : 0 ≤ y ∧ y ≤ 18446744073709551615) (h : x + y ≤ 18446744073709551615) : PureOk Try.prog 26 ([.nv (.one (.val (.int .u64 x))), .nv (.one (.val (.int .u64 y)))]) (.nv (.one (.val (.int .u64 (x + y))))) :=
  pure_run RkA1_ok Try.func26 (orc := ⟨[false], []⟩) (obl := [(0 : Int) ≤ x,
      (0 : Int) ≤ y,
      (0 : Int) ≤ (0 : Int),
      (0 : Int) ≤ (1 : Int),
      decide ((x + y + (0 : Int)) / (18446744073709551616 : Int) > (0 : Int)) = false,
      (x + y + (0 : Int)) % (18446744073709551616 : Int) = x + y]) (by kernel_rfl) (.cons (by omega) (.cons (by omega) (.cons (by trivial) (.cons (by trivial) (.cons (by exact decide_eq_false (by omega)) (.cons (by omega) .nil))))))
set_option maxHeartbeats 2000000 in
theorem sadd_n (x y : Int) (hx : 0 ≤ x ∧ x ≤ 18446744073709551615) (hy : 0 ≤ y ∧ y ≤ 18446744073709551615) (h : 18446744073709551615 < x + y) : PureOk Try.prog 26 ([.nv (.one (.val (.int .u64 x))), .nv (.one (.val (.int .u64 y)))]) (.nv (.one (.val (.int .u64 18446744073709551615)))) :=
  pure_run RkA1_ok Try.func26 (orc := ⟨[true], []⟩) (obl := [(0 : Int) ≤ x,
      (0 : Int) ≤ y,
      (0 : Int) ≤ (0 : Int),
      (0 : Int) ≤ (1 : Int),
      decide ((x + y + (0 : Int)) / (18446744073709551616 : Int) > (0 : Int)) = true,
      (18446744073709551615 : Int) = (18446744073709551615 : Int)]) (by kernel_rfl) (.cons (by omega) (.cons (by omega) (.cons (by trivial) (.cons (by trivial) (.cons (by exact decide_eq_true (by omega)) (.cons (by rfl) .nil))))))
def gSAdd : List SV → Option (SV × List Prop)
  | [.nv (.one (.val (.int .u64 x))), .nv (.one (.val (.int .u64 y)))] => some (uA (capU (x + y)), [0 ≤ x, x ≤ 18446744073709551615, 0 ≤ y, y ≤ 18446744073709551615])
  | _ => none
theorem spSAdd : SpOk Try.prog 26 (pureS gSAdd) := pureS_ok (by
  intro args r obl h ho
  unfold gSAdd at h
  split at h
  · rename_i x y
    simp only [Option.some.injEq, Prod.mk.injEq] at h
    obtain ⟨rfl, rfl⟩ := h
    simp only [AllT, and_true] at ho
    refine ⟨rfl, rfl, ?_⟩
    by_cases e : x + y ≤ 18446744073709551615
    · rw [capU, if_pos e]; exact sadd_y x y ⟨ho.1, ho.2.1⟩ ho.2.2 e
    · rw [capU, if_neg e]; exact sadd_n x y ⟨ho.1, ho.2.1⟩ ho.2.2 (by omega)
  · cases h)
def RkA2 : List (FuncId × Sp) := (26, pureS gSAdd) :: RkA1
theorem RkA2_ok : CtxOk Try.prog RkA2 := ctx_cons (enter_of Try.func26 (by kernel_rfl) (by kernel_rfl)) spSAdd RkA1_ok
set_option maxHeartbeats 2000000 in
theorem smul_y (x y : Int) (hx : 0 ≤ x ∧ x ≤ 18446744073709551615) (hy : 0 ≤ y ∧ y ≤ 18446744073709551615) (h0 : 0 ≤ x * y) (h : x * y ≤ 18446744073709551615) : PureOk Try.prog 34 ([.nv (.one (.val (.int .u64 x))), .nv (.one (.val (.int .u64 y)))]) (.nv (.one (.val (.int .u64 (x * y))))) :=
  pure_run RkA2_ok Try.func34 (orc := ⟨[false], []⟩) (obl := [(0 : Int) ≤ x,
      x ≤ (18446744073709551615 : Int),
      (0 : Int) ≤ y,
      y ≤ (18446744073709551615 : Int),
      decide (x * y / (18446744073709551616 : Int) > (0 : Int)) = false,
      x * y % (18446744073709551616 : Int) = x * y]) (by kernel_rfl) (.cons (by omega) (.cons (by omega) (.cons (by omega) (.cons (by omega) (.cons (by exact decide_eq_false (by omega)) (.cons (by omega) .nil))))))
set_option maxHeartbeats 2000000 in
theorem smul_n (x y : Int) (hx : 0 ≤ x ∧ x ≤ 18446744073709551615) (hy : 0 ≤ y ∧ y ≤ 18446744073709551615) (h : 18446744073709551615 < x * y) : PureOk Try.prog 34 ([.nv (.one (.val (.int .u64 x))), .nv (.one (.val (.int .u64 y)))]) (.nv (.one (.val (.int .u64 18446744073709551615)))) :=
  pure_run RkA2_ok Try.func34 (orc := ⟨[true], []⟩) (obl := [(0 : Int) ≤ x,
      x ≤ (18446744073709551615 : Int),
      (0 : Int) ≤ y,
      y ≤ (18446744073709551615 : Int),
      decide (x * y / (18446744073709551616 : Int) > (0 : Int)) = true,
      (18446744073709551615 : Int) = (18446744073709551615 : Int)]) (by kernel_rfl) (.cons (by omega) (.cons (by omega) (.cons (by omega) (.cons (by omega) (.cons (by exact decide_eq_true (by omega)) (.cons (by rfl) .nil))))))
def gSMul : List SV → Option (SV × List Prop)
  | [.nv (.one (.val (.int .u64 x))), .nv (.one (.val (.int .u64 y)))] => some (uA (capU (x * y)), [0 ≤ x, x ≤ 18446744073709551615, 0 ≤ y, y ≤ 18446744073709551615])
  | _ => none
theorem spSMul : SpOk Try.prog 34 (pureS gSMul) := pureS_ok (by
  intro args r obl h ho
  unfold gSMul at h
  split at h
  · rename_i x y
    simp only [Option.some.injEq, Prod.mk.injEq] at h
    obtain ⟨rfl, rfl⟩ := h
    simp only [AllT, and_true] at ho
    refine ⟨rfl, rfl, ?_⟩
    by_cases e : x * y ≤ 18446744073709551615
    · rw [capU, if_pos e]; exact smul_y x y ⟨ho.1, ho.2.1⟩ ho.2.2 (Int.mul_nonneg ho.1 ho.2.2.1) e
    · rw [capU, if_neg e]; exact smul_n x y ⟨ho.1, ho.2.1⟩ ho.2.2 (by omega)
  · cases h)
def RkA3 : List (FuncId × Sp) := (34, pureS gSMul) :: RkA2
theorem RkA3_ok : CtxOk Try.prog RkA3 := ctx_cons (enter_of Try.func34 (by kernel_rfl) (by kernel_rfl)) spSMul RkA2_ok
set_option maxHeartbeats 2000000 in
theorem smuladd (a b c z : Int) (ha : 0 ≤ a ∧ a ≤ 18446744073709551615) (hb : 0 ≤ b ∧ b ≤ 18446744073709551615) (hc : 0 ≤ c ∧ c ≤ 18446744073709551615) (hz : capU (b * c) = z) (hz2 : 0 ≤ z ∧ z ≤ 18446744073709551615) : PureOk Try.prog 25 ([uA a, uA b, uA c]) (uA (capU (a + z))) :=
  pure_run RkA3_ok Try.func25 (orc := ⟨[], []⟩) (obl := [(0 : Int) ≤ b,
      b ≤ (18446744073709551615 : Int),
      (0 : Int) ≤ c,
      c ≤ (18446744073709551615 : Int),
      (0 : Int) ≤ a,
      a ≤ (18446744073709551615 : Int),
      (0 : Int) ≤ capU (b * c),
      capU (b * c) ≤ (18446744073709551615 : Int),
      capU (a + capU (b * c)) = capU (a + z)]) (by kernel_rfl) (.cons (by omega) (.cons (by omega) (.cons (by omega) (.cons (by omega) (.cons (by omega) (.cons (by omega) (.cons (by omega) (.cons (by omega) (.cons (by (subst_vars; rfl)) .nil)))))))))
def gSMulAdd : List SV → Option (SV × List Prop)
  | [.nv (.one (.val (.int .u64 a))), .nv (.one (.val (.int .u64 b))), .nv (.one (.val (.int .u64 c)))] =>
    some (uA (capU (a + capU (b * c))), [0 ≤ a, a ≤ 18446744073709551615, 0 ≤ b, b ≤ 18446744073709551615, 0 ≤ c, c ≤ 18446744073709551615])
  | _ => none
theorem spSMulAdd : SpOk Try.prog 25 (pureS gSMulAdd) := pureS_ok (by
  intro args r obl h ho
  unfold gSMulAdd at h
  split at h
  · rename_i a b c
    simp only [Option.some.injEq, Prod.mk.injEq] at h
    obtain ⟨rfl, rfl⟩ := h
    simp only [AllT, and_true] at ho
    obtain ⟨h1, h2, h3, h4, h5⟩ := ho
    exact ⟨rfl, rfl, smuladd a b c _ ⟨h1, h2⟩ ⟨h3, h4⟩ h5 rfl (capU_bd (Int.mul_nonneg h3 h5.1))⟩
  · cases h)
def RkA4 : List (FuncId × Sp) := (25, pureS gSMulAdd) :: RkA3
theorem RkA4_ok : CtxOk Try.prog RkA4 := ctx_cons (enter_of Try.func25 (by kernel_rfl) (by kernel_rfl)) spSMulAdd RkA3_ok
def d0 (x : Int) : Int := x % 4294967296
def d1 (x : Int) : Int := x / 4294967296 % 4294967296
def d2 (x : Int) : Int := x / 18446744073709551616 % 4294967296
def d3 (x : Int) : Int := x / 79228162514264337593543950336
def val4 (a b c d : Int) : Int := a + 4294967296 * b + 18446744073709551616 * c + 79228162514264337593543950336 * d
theorem val4_d {x : Int} (h : 0 ≤ x) : val4 (d0 x) (d1 x) (d2 x) (d3 x) = x := by unfold val4 d0 d1 d2 d3; omega
def dig (x : Int) : Prop := 0 ≤ x ∧ x ≤ 4294967295
theorem dig_d {x : Int} (h : 0 ≤ x ∧ x ≤ 340282366920938463463374607431768211455) : dig (d0 x) ∧ dig (d1 x) ∧ dig (d2 x) ∧ dig (d3 x) := by unfold dig d0 d1 d2 d3; omega
abbrev wN (a b c d : Int) : NV := .agg [.val (.int .u64 a), .val (.int .u64 b), .val (.int .u64 c), .val (.int .u64 d)]
abbrev wD (x : Int) : NV := wN (d0 x) (d1 x) (d2 x) (d3 x)
theorem wdiv {c k : Int} (h : 0 ≤ c ∧ c ≤ 18446744073709551615) (hk : k = c / 4294967296) : IntKind.wrap IntKind.u64 (Int.tdiv c 4294967296) = k := by
  rw [Int.tdiv_eq_ediv_of_nonneg h.1]; exact wU64 hk.symm (by omega)
theorem tmodP {c r : Int} (h : 0 ≤ c) (hr : r = c % 4294967296) : Int.tmod c 4294967296 = r := by
  rw [Int.tmod_eq_emod_of_nonneg h, hr]
theorem eq_d {x a b c d : Int} (h0 : dig a) (h1 : dig b) (h2 : dig c) (h3 : dig d) (hx : x = val4 a b c d) : d0 x = a ∧ d1 x = b ∧ d2 x = c ∧ d3 x = d := by
  subst hx
  unfold dig at *
  unfold d0 d1 d2 d3 val4
  omega
theorem w2 {a b k c : Int} (h : 0 ≤ a + b ∧ a + b ≤ 18446744073709551615) (hk : a + b + k = c) (hc : 0 ≤ c ∧ c ≤ 18446744073709551615) : IntKind.wrap IntKind.u64 (IntKind.wrap IntKind.u64 (a + b) + k) = c := by
  rw [wU64 (a := a + b) (b := a + b) rfl h]; exact wU64 hk hc
theorem w3 {a b k c : Int} (ha : 0 ≤ a ∧ a ≤ 4294967295) (hb : 0 ≤ b ∧ b ≤ 4294967295) (hk : 0 ≤ k ∧ k ≤ 1) (hc : a + 4294967296 - b - k = c) : IntKind.wrap IntKind.u64 (IntKind.wrap IntKind.u64 (IntKind.wrap IntKind.u64 (a + 4294967296) - b) - k) = c := by
  rw [wU64 (a := a + 4294967296) (b := a + 4294967296) rfl (by omega), wU64 (a := a + 4294967296 - b) (b := a + 4294967296 - b) rfl (by omega)]; exact wU64 hc (by omega)
theorem wbor {c k : Int} (h : 0 ≤ c ∧ c < 8589934592) (hk : k = 1 - c / 4294967296) : IntKind.wrap IntKind.u64 (1 - IntKind.wrap IntKind.u64 (Int.tdiv c 4294967296)) = k := by
  rw [wdiv (k := c / 4294967296) (by omega) rfl]; exact wU64 hk.symm (by omega)
def capW (x : Int) : Int := if x ≤ 18446744073709551615 then x else 18446744073709551615
theorem prod_digs (a0 a1 b0 b1 : Int) : (a0 + 4294967296 * a1) * (b0 + 4294967296 * b1) = a0 * b0 + 4294967296 * (a0 * b1) + 4294967296 * (a1 * b0) + 18446744073709551616 * (a1 * b1) := by
  rw [Int.add_mul, Int.mul_add, Int.mul_add, Int.mul_left_comm a0 4294967296 b1, Int.mul_assoc 4294967296 a1 b0, Int.mul_assoc 4294967296 a1 (4294967296 * b1), Int.mul_left_comm a1 4294967296 b1]
  omega
theorem prod_dig {a b : Int} (ha : dig a) (hb : dig b) : 0 ≤ a * b ∧ a * b ≤ 18446744065119617025 := by
  unfold dig at *
  refine ⟨Int.mul_nonneg ha.1 hb.1, ?_⟩
  have h1 : a * b ≤ 4294967295 * b := Int.mul_le_mul_of_nonneg_right ha.2 hb.1
  omega
theorem w4 {p o c n : Int} (hp : 0 ≤ p ∧ p ≤ 18446744065119617025) (ho : 0 ≤ o ∧ o ≤ 4294967295) (hc : 0 ≤ c ∧ c ≤ 4294967295) (hn : p + o + c = n) : IntKind.wrap IntKind.u64 (IntKind.wrap IntKind.u64 (IntKind.wrap IntKind.u64 p + o) + c) = n := by
  rw [wU64 (a := p) (b := p) rfl (by omega), wU64 (a := p + o) (b := p + o) rfl (by omega)]; exact wU64 hn (by omega)
set_option maxHeartbeats 2000000 in
theorem of_pure (a h : Int) (hh : IntKind.wrap IntKind.u64 (Int.tdiv a 4294967296) = h) : PureOk Try.prog 38 ([uA a]) (.nv (wN (Int.tmod a 4294967296) h 0 0)) :=
  pure_run RkA4_ok Try.func38 (orc := ⟨[], []⟩) (obl := [(4294967296 : Int) ≠ (0 : Int),
      (4294967296 : Int) ≠ (0 : Int),
      Int.tmod a (4294967296 : Int) = Int.tmod a (4294967296 : Int),
      IntKind.wrap IntKind.u64 (Int.tdiv a (4294967296 : Int)) = h,
      (0 : Int) = (0 : Int),
      (0 : Int) = (0 : Int)]) (by kernel_rfl) (.cons (by trivial) (.cons (by trivial) (.cons (by rfl) (.cons (by assumption) (.cons (by rfl) (.cons (by rfl) .nil))))))
theorem of_w (a : Int) (ha : 0 ≤ a ∧ a ≤ 18446744073709551615) : PureOk Try.prog 38 [uA a] (.nv (wD a)) := by
  obtain ⟨e0, e1, e2, e3⟩ := eq_d (x := a) (a := a % 4294967296) (b := a / 4294967296) (c := 0) (d := 0) (by unfold dig; omega) (by unfold dig; omega) (by unfold dig; omega) (by unfold dig; omega) (by unfold val4; omega)
  simp only [wD, e0, e1, e2, e3]
  rw [← tmodP ha.1 rfl]
  exact of_pure a _ (wdiv ha rfl)
def gOf : List SV → Option (SV × List Prop)
  | [.nv (.one (.val (.int .u64 a)))] => some (.nv (wD a), [0 ≤ a, a ≤ 18446744073709551615])
  | _ => none
theorem spOf : SpOk Try.prog 38 (pureS gOf) := pureS_ok (by
  intro args r obl h ho
  unfold gOf at h
  split at h
  · simp only [Option.some.injEq, Prod.mk.injEq] at h
    obtain ⟨rfl, rfl⟩ := h
    simp only [AllT, and_true] at ho
    exact ⟨rfl, rfl, of_w _ ho⟩
  · cases h)
def RkA5 : List (FuncId × Sp) := (38, pureS gOf) :: RkA4
theorem RkA5_ok : CtxOk Try.prog RkA5 := ctx_cons (enter_of Try.func38 (by kernel_rfl) (by kernel_rfl)) spOf RkA4_ok
set_option maxHeartbeats 2000000 in
theorem plus_pure (a0 a1 a2 a3 b0 b1 b2 b3 c0 c1 c2 c3 k0 k1 k2 k3 r0 r1 r2 r3 : Int) (e0 : IntKind.wrap IntKind.u64 (IntKind.wrap IntKind.u64 (a0 + b0) + 0) = c0) (g0 : IntKind.wrap IntKind.u64 (Int.tdiv c0 4294967296) = k0) (f0 : Int.tmod c0 4294967296 = r0) (e1 : IntKind.wrap IntKind.u64 (IntKind.wrap IntKind.u64 (a1 + b1) + k0) = c1) (g1 : IntKind.wrap IntKind.u64 (Int.tdiv c1 4294967296) = k1) (f1 : Int.tmod c1 4294967296 = r1) (e2 : IntKind.wrap IntKind.u64 (IntKind.wrap IntKind.u64 (a2 + b2) + k1) = c2) (g2 : IntKind.wrap IntKind.u64 (Int.tdiv c2 4294967296) = k2) (f2 : Int.tmod c2 4294967296 = r2) (e3 : IntKind.wrap IntKind.u64 (IntKind.wrap IntKind.u64 (a3 + b3) + k2) = c3) (g3 : IntKind.wrap IntKind.u64 (Int.tdiv c3 4294967296) = k3) (f3 : Int.tmod c3 4294967296 = r3) : PureOk Try.prog 37 ([.nv (wN a0 a1 a2 a3), .nv (wN b0 b1 b2 b3)]) (.nv (wN r0 r1 r2 r3)) :=
  pure_run RkA5_ok Try.func37 (orc := ⟨[true, true, true, true, false], [unroll 6]⟩) (obl := [decide ((0 : Int) < (4 : Int)) = true,
      (0 : Int) ≤ (0 : Int),
      (0 : Int) < (↑(4 : Nat) : Int),
      (0 : Int) ≤ (0 : Int),
      (0 : Int) < (↑(4 : Nat) : Int),
      (4294967296 : Int) ≠ (0 : Int),
      (0 : Int) ≤ (0 : Int),
      (0 : Int) < (↑(4 : Nat) : Int),
      (4294967296 : Int) ≠ (0 : Int),
      decide (IntKind.wrap IntKind.i64 ((0 : Int) + (1 : Int)) < (4 : Int)) = true,
      (0 : Int) ≤ IntKind.wrap IntKind.i64 ((0 : Int) + (1 : Int)),
      IntKind.wrap IntKind.i64 ((0 : Int) + (1 : Int)) < (↑(4 : Nat) : Int),
      (0 : Int) ≤ IntKind.wrap IntKind.i64 ((0 : Int) + (1 : Int)),
      IntKind.wrap IntKind.i64 ((0 : Int) + (1 : Int)) < (↑(4 : Nat) : Int),
      (4294967296 : Int) ≠ (0 : Int),
      (0 : Int) ≤ IntKind.wrap IntKind.i64 ((0 : Int) + (1 : Int)),
      IntKind.wrap IntKind.i64 ((0 : Int) + (1 : Int)) < (↑(4 : Nat) : Int),
      (4294967296 : Int) ≠ (0 : Int),
      decide (IntKind.wrap IntKind.i64 (IntKind.wrap IntKind.i64 ((0 : Int) + (1 : Int)) + (1 : Int)) < (4 : Int)) = true,
      (0 : Int) ≤ IntKind.wrap IntKind.i64 (IntKind.wrap IntKind.i64 ((0 : Int) + (1 : Int)) + (1 : Int)),
      IntKind.wrap IntKind.i64 (IntKind.wrap IntKind.i64 ((0 : Int) + (1 : Int)) + (1 : Int)) < (↑(4 : Nat) : Int),
      (0 : Int) ≤ IntKind.wrap IntKind.i64 (IntKind.wrap IntKind.i64 ((0 : Int) + (1 : Int)) + (1 : Int)),
      IntKind.wrap IntKind.i64 (IntKind.wrap IntKind.i64 ((0 : Int) + (1 : Int)) + (1 : Int)) < (↑(4 : Nat) : Int),
      (4294967296 : Int) ≠ (0 : Int),
      (0 : Int) ≤ IntKind.wrap IntKind.i64 (IntKind.wrap IntKind.i64 ((0 : Int) + (1 : Int)) + (1 : Int)),
      IntKind.wrap IntKind.i64 (IntKind.wrap IntKind.i64 ((0 : Int) + (1 : Int)) + (1 : Int)) < (↑(4 : Nat) : Int),
      (4294967296 : Int) ≠ (0 : Int),
      decide (IntKind.wrap IntKind.i64 (IntKind.wrap IntKind.i64 (IntKind.wrap IntKind.i64 ((0 : Int) + (1 : Int)) + (1 : Int)) + (1 : Int)) < (4 : Int)) = true,
      (0 : Int) ≤ IntKind.wrap IntKind.i64 (IntKind.wrap IntKind.i64 (IntKind.wrap IntKind.i64 ((0 : Int) + (1 : Int)) + (1 : Int)) + (1 : Int)),
      IntKind.wrap IntKind.i64 (IntKind.wrap IntKind.i64 (IntKind.wrap IntKind.i64 ((0 : Int) + (1 : Int)) + (1 : Int)) + (1 : Int)) < (↑(4 : Nat) : Int),
      (0 : Int) ≤ IntKind.wrap IntKind.i64 (IntKind.wrap IntKind.i64 (IntKind.wrap IntKind.i64 ((0 : Int) + (1 : Int)) + (1 : Int)) + (1 : Int)),
      IntKind.wrap IntKind.i64 (IntKind.wrap IntKind.i64 (IntKind.wrap IntKind.i64 ((0 : Int) + (1 : Int)) + (1 : Int)) + (1 : Int)) < (↑(4 : Nat) : Int),
      (4294967296 : Int) ≠ (0 : Int),
      (0 : Int) ≤ IntKind.wrap IntKind.i64 (IntKind.wrap IntKind.i64 (IntKind.wrap IntKind.i64 ((0 : Int) + (1 : Int)) + (1 : Int)) + (1 : Int)),
      IntKind.wrap IntKind.i64 (IntKind.wrap IntKind.i64 (IntKind.wrap IntKind.i64 ((0 : Int) + (1 : Int)) + (1 : Int)) + (1 : Int)) < (↑(4 : Nat) : Int),
      (4294967296 : Int) ≠ (0 : Int),
      decide (IntKind.wrap IntKind.i64 (IntKind.wrap IntKind.i64 (IntKind.wrap IntKind.i64 (IntKind.wrap IntKind.i64 ((0 : Int) + (1 : Int)) + (1 : Int)) + (1 : Int)) + (1 : Int)) < (4 : Int)) = false,
      Int.tmod (IntKind.wrap IntKind.u64 (IntKind.wrap IntKind.u64 (a0 + b0) + (0 : Int))) (4294967296 : Int) = r0,
      Int.tmod (IntKind.wrap IntKind.u64 (IntKind.wrap IntKind.u64 (a1 + b1) + IntKind.wrap IntKind.u64 (Int.tdiv (IntKind.wrap IntKind.u64 (IntKind.wrap IntKind.u64 (a0 + b0) + (0 : Int))) (4294967296 : Int)))) (4294967296 : Int) = r1,
      Int.tmod (IntKind.wrap IntKind.u64 (IntKind.wrap IntKind.u64 (a2 + b2) + IntKind.wrap IntKind.u64 (Int.tdiv (IntKind.wrap IntKind.u64 (IntKind.wrap IntKind.u64 (a1 + b1) + IntKind.wrap IntKind.u64 (Int.tdiv (IntKind.wrap IntKind.u64 (IntKind.wrap IntKind.u64 (a0 + b0) + (0 : Int))) (4294967296 : Int)))) (4294967296 : Int)))) (4294967296 : Int) = r2,
      Int.tmod (IntKind.wrap IntKind.u64 (IntKind.wrap IntKind.u64 (a3 + b3) + IntKind.wrap IntKind.u64 (Int.tdiv (IntKind.wrap IntKind.u64 (IntKind.wrap IntKind.u64 (a2 + b2) + IntKind.wrap IntKind.u64 (Int.tdiv (IntKind.wrap IntKind.u64 (IntKind.wrap IntKind.u64 (a1 + b1) + IntKind.wrap IntKind.u64 (Int.tdiv (IntKind.wrap IntKind.u64 (IntKind.wrap IntKind.u64 (a0 + b0) + (0 : Int))) (4294967296 : Int)))) (4294967296 : Int)))) (4294967296 : Int)))) (4294967296 : Int) = r3]) (by kernel_rfl) (.cons (by rfl) (.cons (by trivial) (.cons (by trivial) (.cons (by trivial) (.cons (by trivial) (.cons (by trivial) (.cons (by trivial) (.cons (by trivial) (.cons (by trivial) (.cons (by rfl) (.cons (by trivial) (.cons (by trivial) (.cons (by trivial) (.cons (by trivial) (.cons (by trivial) (.cons (by trivial) (.cons (by trivial) (.cons (by trivial) (.cons (by rfl) (.cons (by trivial) (.cons (by trivial) (.cons (by trivial) (.cons (by trivial) (.cons (by trivial) (.cons (by trivial) (.cons (by trivial) (.cons (by trivial) (.cons (by rfl) (.cons (by trivial) (.cons (by trivial) (.cons (by trivial) (.cons (by trivial) (.cons (by trivial) (.cons (by trivial) (.cons (by trivial) (.cons (by trivial) (.cons (by rfl) (.cons (by (subst_vars; rfl)) (.cons (by (subst_vars; rfl)) (.cons (by (subst_vars; rfl)) (.cons (by (subst_vars; rfl)) .nil)))))))))))))))))))))))))))))))))))))))))
theorem plus_w (a0 a1 a2 a3 b0 b1 b2 b3 : Int) (h0 : dig a0) (h1 : dig a1) (h2 : dig a2) (h3 : dig a3) (g0 : dig b0) (g1 : dig b1) (g2 : dig b2) (g3 : dig b3)
    (hs : val4 a0 a1 a2 a3 + val4 b0 b1 b2 b3 ≤ 340282366920938463463374607431768211455) : PureOk Try.prog 37 [.nv (wN a0 a1 a2 a3), .nv (wN b0 b1 b2 b3)] (.nv (wD (val4 a0 a1 a2 a3 + val4 b0 b1 b2 b3))) := by
  unfold dig at *
  obtain ⟨c0, hc0⟩ : ∃ c, c = a0 + b0 := ⟨_, rfl⟩
  obtain ⟨k0, hk0⟩ : ∃ k, k = c0 / 4294967296 := ⟨_, rfl⟩
  obtain ⟨r0, hr0⟩ : ∃ k, k = c0 % 4294967296 := ⟨_, rfl⟩
  obtain ⟨c1, hc1⟩ : ∃ c, c = a1 + b1 + k0 := ⟨_, rfl⟩
  obtain ⟨k1, hk1⟩ : ∃ k, k = c1 / 4294967296 := ⟨_, rfl⟩
  obtain ⟨r1, hr1⟩ : ∃ k, k = c1 % 4294967296 := ⟨_, rfl⟩
  obtain ⟨c2, hc2⟩ : ∃ c, c = a2 + b2 + k1 := ⟨_, rfl⟩
  obtain ⟨k2, hk2⟩ : ∃ k, k = c2 / 4294967296 := ⟨_, rfl⟩
  obtain ⟨r2, hr2⟩ : ∃ k, k = c2 % 4294967296 := ⟨_, rfl⟩
  obtain ⟨c3, hc3⟩ : ∃ c, c = a3 + b3 + k2 := ⟨_, rfl⟩
  obtain ⟨k3, hk3⟩ : ∃ k, k = c3 / 4294967296 := ⟨_, rfl⟩
  obtain ⟨r3, hr3⟩ : ∃ k, k = c3 % 4294967296 := ⟨_, rfl⟩
  have q0 : c0 = r0 + 4294967296 * k0 ∧ 0 ≤ r0 ∧ r0 ≤ 4294967295 ∧ 0 ≤ k0 ∧ k0 ≤ 1 := by omega
  have q1 : c1 = r1 + 4294967296 * k1 ∧ 0 ≤ r1 ∧ r1 ≤ 4294967295 ∧ 0 ≤ k1 ∧ k1 ≤ 1 := by omega
  have q2 : c2 = r2 + 4294967296 * k2 ∧ 0 ≤ r2 ∧ r2 ≤ 4294967295 ∧ 0 ≤ k2 ∧ k2 ≤ 1 := by omega
  have q3 : c3 = r3 + 4294967296 * k3 ∧ 0 ≤ r3 ∧ r3 ≤ 4294967295 ∧ 0 ≤ k3 ∧ k3 ≤ 1 := by omega
  have hS : val4 a0 a1 a2 a3 + val4 b0 b1 b2 b3 = val4 r0 r1 r2 r3 + 340282366920938463463374607431768211456 * k3 := by unfold val4; omega
  have z3 : k3 = 0 := by unfold val4 at hS hs; omega
  rw [z3] at hS
  obtain ⟨e0, e1, e2, e3⟩ := eq_d (x := val4 a0 a1 a2 a3 + val4 b0 b1 b2 b3) (a := r0) (b := r1) (c := r2) (d := r3) (by unfold dig; omega) (by unfold dig; omega) (by unfold dig; omega) (by unfold dig; omega) (by omega)
  simp only [wD, e0, e1, e2, e3]
  exact plus_pure a0 a1 a2 a3 b0 b1 b2 b3 c0 c1 c2 c3 k0 k1 k2 k3 r0 r1 r2 r3 (w2 (by omega) (by omega) (by omega)) (wdiv (by omega) hk0) (tmodP (by omega) hr0) (w2 (by omega) (by omega) (by omega)) (wdiv (by omega) hk1) (tmodP (by omega) hr1)
    (w2 (by omega) (by omega) (by omega)) (wdiv (by omega) hk2) (tmodP (by omega) hr2) (w2 (by omega) (by omega) (by omega)) (wdiv (by omega) hk3) (tmodP (by omega) hr3)
def gPlus : List SV → Option (SV × List Prop)
  | [.nv (.agg [.val (.int .u64 a0), .val (.int .u64 a1), .val (.int .u64 a2), .val (.int .u64 a3)]), .nv (.agg [.val (.int .u64 b0), .val (.int .u64 b1), .val (.int .u64 b2), .val (.int .u64 b3)])] =>
    some (.nv (wD (val4 a0 a1 a2 a3 + val4 b0 b1 b2 b3)), [dig a0, dig a1, dig a2, dig a3, dig b0, dig b1, dig b2, dig b3, val4 a0 a1 a2 a3 + val4 b0 b1 b2 b3 ≤ 340282366920938463463374607431768211455])
  | _ => none
theorem spPlus : SpOk Try.prog 37 (pureS gPlus) := pureS_ok (by
  intro args r obl h ho
  unfold gPlus at h
  split at h
  · simp only [Option.some.injEq, Prod.mk.injEq] at h
    obtain ⟨rfl, rfl⟩ := h
    simp only [AllT, and_true] at ho
    obtain ⟨h0, h1, h2, h3, g0, g1, g2, g3, hs⟩ := ho
    exact ⟨rfl, rfl, plus_w _ _ _ _ _ _ _ _ h0 h1 h2 h3 g0 g1 g2 g3 hs⟩
  · cases h)
def RkA6 : List (FuncId × Sp) := (37, pureS gPlus) :: RkA5
theorem RkA6_ok : CtxOk Try.prog RkA6 := ctx_cons (enter_of Try.func37 (by kernel_rfl) (by kernel_rfl)) spPlus RkA5_ok
set_option maxHeartbeats 2000000 in
theorem cap_c (a b c d : Int) (h : c ≠ 0) : PureOk Try.prog 36 ([.nv (wN a b c d)]) (uA 18446744073709551615) :=
  pure_run RkA6_ok Try.func36 (orc := ⟨[true, true], []⟩) (obl := [(0 : Int) ≤ (2 : Int),
      (2 : Int) < (↑(4 : Nat) : Int),
      (c != (0 : Int)) = true,
      true = true,
      (18446744073709551615 : Int) = (18446744073709551615 : Int)]) (by kernel_rfl) (.cons (by trivial) (.cons (by trivial) (.cons (by exact bne_iff_ne.2 (by omega)) (.cons (by rfl) (.cons (by rfl) .nil)))))
set_option maxHeartbeats 2000000 in
theorem cap_d (a b d : Int) (h : d ≠ 0) : PureOk Try.prog 36 ([.nv (wN a b 0 d)]) (uA 18446744073709551615) :=
  pure_run RkA6_ok Try.func36 (orc := ⟨[false, true], []⟩) (obl := [(0 : Int) ≤ (2 : Int),
      (2 : Int) < (↑(4 : Nat) : Int),
      ((0 : Int) != (0 : Int)) = false,
      (0 : Int) ≤ (3 : Int),
      (3 : Int) < (↑(4 : Nat) : Int),
      (d != (0 : Int)) = true,
      (18446744073709551615 : Int) = (18446744073709551615 : Int)]) (by kernel_rfl) (.cons (by trivial) (.cons (by trivial) (.cons (by rfl) (.cons (by trivial) (.cons (by trivial) (.cons (by exact bne_iff_ne.2 (by omega)) (.cons (by rfl) .nil)))))))
set_option maxHeartbeats 2000000 in
theorem cap_in (a b x : Int) (hx : IntKind.wrap IntKind.u64 (IntKind.wrap IntKind.u64 (b * 4294967296) + a) = x) : PureOk Try.prog 36 ([.nv (wN a b 0 0)]) (uA x) :=
  pure_run RkA6_ok Try.func36 (orc := ⟨[false, false], []⟩) (obl := [(0 : Int) ≤ (2 : Int),
      (2 : Int) < (↑(4 : Nat) : Int),
      ((0 : Int) != (0 : Int)) = false,
      (0 : Int) ≤ (3 : Int),
      (3 : Int) < (↑(4 : Nat) : Int),
      ((0 : Int) != (0 : Int)) = false,
      (0 : Int) ≤ (1 : Int),
      (1 : Int) < (↑(4 : Nat) : Int),
      (0 : Int) ≤ (0 : Int),
      (0 : Int) < (↑(4 : Nat) : Int),
      IntKind.wrap IntKind.u64 (IntKind.wrap IntKind.u64 (b * (4294967296 : Int)) + a) = x]) (by kernel_rfl) (.cons (by trivial) (.cons (by trivial) (.cons (by rfl) (.cons (by trivial) (.cons (by trivial) (.cons (by rfl) (.cons (by trivial) (.cons (by trivial) (.cons (by trivial) (.cons (by trivial) (.cons (by assumption) .nil)))))))))))
theorem cap_w (a b c d : Int) (h0 : dig a) (h1 : dig b) (h2 : dig c) (h3 : dig d) : PureOk Try.prog 36 [.nv (wN a b c d)] (uA (capW (val4 a b c d))) := by
  unfold dig at *
  by_cases e2 : c = 0
  · by_cases e3 : d = 0
    · subst e2; subst e3
      have : capW (val4 a b 0 0) = b * 4294967296 + a := by unfold capW val4; rw [if_pos (by omega)]; omega
      rw [this]
      exact cap_in a b _ (by rw [wU64 (a := b * 4294967296) (b := b * 4294967296) rfl (by omega)]; exact wU64 rfl (by omega))
    · subst e2
      have : capW (val4 a b 0 d) = 18446744073709551615 := by unfold capW val4; rw [if_neg (by omega)]
      rw [this]
      exact cap_d a b d e3
  · have : capW (val4 a b c d) = 18446744073709551615 := by unfold capW val4; rw [if_neg (by omega)]
    rw [this]
    exact cap_c a b c d e2
def gCap : List SV → Option (SV × List Prop)
  | [.nv (.agg [.val (.int .u64 a0), .val (.int .u64 a1), .val (.int .u64 a2), .val (.int .u64 a3)])] => some (uA (capW (val4 a0 a1 a2 a3)), [dig a0, dig a1, dig a2, dig a3])
  | _ => none
theorem spCap : SpOk Try.prog 36 (pureS gCap) := pureS_ok (by
  intro args r obl h ho
  unfold gCap at h
  split at h
  · simp only [Option.some.injEq, Prod.mk.injEq] at h
    obtain ⟨rfl, rfl⟩ := h
    simp only [AllT, and_true] at ho
    obtain ⟨h0, h1, h2, h3⟩ := ho
    exact ⟨rfl, rfl, cap_w _ _ _ _ h0 h1 h2 h3⟩
  · cases h)
def RkA7 : List (FuncId × Sp) := (36, pureS gCap) :: RkA6
theorem RkA7_ok : CtxOk Try.prog RkA7 := ctx_cons (enter_of Try.func36 (by kernel_rfl) (by kernel_rfl)) spCap RkA6_ok
set_option maxHeartbeats 2000000 in
theorem times_pure (a b : Int) (ha : 0 ≤ a ∧ a ≤ 18446744073709551615) (hb : 0 ≤ b ∧ b ≤ 18446744073709551615) (a0 a1 b0 b1 n00 c00 o00 n01 c01 o01 s2 n10 c10 o10 n11 c11 o11 s3 : Int) (ea0 : d0 a = a0) (ea1 : d1 a = a1) (eb0 : d0 b = b0) (eb1 : d1 b = b1) (e00 : IntKind.wrap IntKind.u64 (IntKind.wrap IntKind.u64 (IntKind.wrap IntKind.u64 (a0 * b0) + 0) + 0) = n00) (g00 : IntKind.wrap IntKind.u64 (Int.tdiv n00 4294967296) = c00) (f00 : Int.tmod n00 4294967296 = o00) (e01 : IntKind.wrap IntKind.u64 (IntKind.wrap IntKind.u64 (IntKind.wrap IntKind.u64 (a0 * b1) + 0) + c00) = n01) (g01 : IntKind.wrap IntKind.u64 (Int.tdiv n01 4294967296) = c01) (f01 : Int.tmod n01 4294967296 = o01) (q2 : IntKind.wrap IntKind.u64 (0 + c01) = s2) (e10 : IntKind.wrap IntKind.u64 (IntKind.wrap IntKind.u64 (IntKind.wrap IntKind.u64 (a1 * b0) + o01) + 0) = n10) (g10 : IntKind.wrap IntKind.u64 (Int.tdiv n10 4294967296) = c10) (f10 : Int.tmod n10 4294967296 = o10) (e11 : IntKind.wrap IntKind.u64 (IntKind.wrap IntKind.u64 (IntKind.wrap IntKind.u64 (a1 * b1) + s2) + c10) = n11) (g11 : IntKind.wrap IntKind.u64 (Int.tdiv n11 4294967296) = c11) (f11 : Int.tmod n11 4294967296 = o11) (q3 : IntKind.wrap IntKind.u64 (0 + c11) = s3) : PureOk Try.prog 39 ([uA a, uA b]) (.nv (wN o00 o10 o11 s3)) :=
  pure_run RkA7_ok Try.func39 (orc := ⟨[true, true, true, false, true, true, true, false, false], [unroll 4, unroll 4, unroll 4]⟩) (obl := [(0 : Int) ≤ a,
      a ≤ (18446744073709551615 : Int),
      (0 : Int) ≤ b,
      b ≤ (18446744073709551615 : Int),
      decide ((0 : Int) < (2 : Int)) = true,
      decide ((0 : Int) < (2 : Int)) = true,
      (0 : Int) ≤ (0 : Int),
      (0 : Int) < (↑(4 : Nat) : Int),
      (0 : Int) ≤ (0 : Int),
      (0 : Int) < (↑(4 : Nat) : Int),
      (0 : Int) ≤ IntKind.wrap IntKind.i64 ((0 : Int) + (0 : Int)),
      IntKind.wrap IntKind.i64 ((0 : Int) + (0 : Int)) < (↑(4 : Nat) : Int),
      (4294967296 : Int) ≠ (0 : Int),
      (0 : Int) ≤ IntKind.wrap IntKind.i64 ((0 : Int) + (0 : Int)),
      IntKind.wrap IntKind.i64 ((0 : Int) + (0 : Int)) < (↑(4 : Nat) : Int),
      (4294967296 : Int) ≠ (0 : Int),
      decide (IntKind.wrap IntKind.i64 ((0 : Int) + (1 : Int)) < (2 : Int)) = true,
      (0 : Int) ≤ (0 : Int),
      (0 : Int) < (↑(4 : Nat) : Int),
      (0 : Int) ≤ IntKind.wrap IntKind.i64 ((0 : Int) + (1 : Int)),
      IntKind.wrap IntKind.i64 ((0 : Int) + (1 : Int)) < (↑(4 : Nat) : Int),
      (0 : Int) ≤ IntKind.wrap IntKind.i64 ((0 : Int) + IntKind.wrap IntKind.i64 ((0 : Int) + (1 : Int))),
      IntKind.wrap IntKind.i64 ((0 : Int) + IntKind.wrap IntKind.i64 ((0 : Int) + (1 : Int))) < (↑(4 : Nat) : Int),
      (4294967296 : Int) ≠ (0 : Int),
      (0 : Int) ≤ IntKind.wrap IntKind.i64 ((0 : Int) + IntKind.wrap IntKind.i64 ((0 : Int) + (1 : Int))),
      IntKind.wrap IntKind.i64 ((0 : Int) + IntKind.wrap IntKind.i64 ((0 : Int) + (1 : Int))) < (↑(4 : Nat) : Int),
      (4294967296 : Int) ≠ (0 : Int),
      decide (IntKind.wrap IntKind.i64 (IntKind.wrap IntKind.i64 ((0 : Int) + (1 : Int)) + (1 : Int)) < (2 : Int)) = false,
      (0 : Int) ≤ IntKind.wrap IntKind.i64 ((0 : Int) + (2 : Int)),
      IntKind.wrap IntKind.i64 ((0 : Int) + (2 : Int)) < (↑(4 : Nat) : Int),
      (0 : Int) ≤ IntKind.wrap IntKind.i64 ((0 : Int) + (2 : Int)),
      IntKind.wrap IntKind.i64 ((0 : Int) + (2 : Int)) < (↑(4 : Nat) : Int),
      decide (IntKind.wrap IntKind.i64 ((0 : Int) + (1 : Int)) < (2 : Int)) = true,
      decide ((0 : Int) < (2 : Int)) = true,
      (0 : Int) ≤ IntKind.wrap IntKind.i64 ((0 : Int) + (1 : Int)),
      IntKind.wrap IntKind.i64 ((0 : Int) + (1 : Int)) < (↑(4 : Nat) : Int),
      (0 : Int) ≤ (0 : Int),
      (0 : Int) < (↑(4 : Nat) : Int),
      (0 : Int) ≤ IntKind.wrap IntKind.i64 (IntKind.wrap IntKind.i64 ((0 : Int) + (1 : Int)) + (0 : Int)),
      IntKind.wrap IntKind.i64 (IntKind.wrap IntKind.i64 ((0 : Int) + (1 : Int)) + (0 : Int)) < (↑(4 : Nat) : Int),
      (4294967296 : Int) ≠ (0 : Int),
      (0 : Int) ≤ IntKind.wrap IntKind.i64 (IntKind.wrap IntKind.i64 ((0 : Int) + (1 : Int)) + (0 : Int)),
      IntKind.wrap IntKind.i64 (IntKind.wrap IntKind.i64 ((0 : Int) + (1 : Int)) + (0 : Int)) < (↑(4 : Nat) : Int),
      (4294967296 : Int) ≠ (0 : Int),
      decide (IntKind.wrap IntKind.i64 ((0 : Int) + (1 : Int)) < (2 : Int)) = true,
      (0 : Int) ≤ IntKind.wrap IntKind.i64 ((0 : Int) + (1 : Int)),
      IntKind.wrap IntKind.i64 ((0 : Int) + (1 : Int)) < (↑(4 : Nat) : Int),
      (0 : Int) ≤ IntKind.wrap IntKind.i64 ((0 : Int) + (1 : Int)),
      IntKind.wrap IntKind.i64 ((0 : Int) + (1 : Int)) < (↑(4 : Nat) : Int),
      (0 : Int) ≤ IntKind.wrap IntKind.i64 (IntKind.wrap IntKind.i64 ((0 : Int) + (1 : Int)) + IntKind.wrap IntKind.i64 ((0 : Int) + (1 : Int))),
      IntKind.wrap IntKind.i64 (IntKind.wrap IntKind.i64 ((0 : Int) + (1 : Int)) + IntKind.wrap IntKind.i64 ((0 : Int) + (1 : Int))) < (↑(4 : Nat) : Int),
      (4294967296 : Int) ≠ (0 : Int),
      (0 : Int) ≤ IntKind.wrap IntKind.i64 (IntKind.wrap IntKind.i64 ((0 : Int) + (1 : Int)) + IntKind.wrap IntKind.i64 ((0 : Int) + (1 : Int))),
      IntKind.wrap IntKind.i64 (IntKind.wrap IntKind.i64 ((0 : Int) + (1 : Int)) + IntKind.wrap IntKind.i64 ((0 : Int) + (1 : Int))) < (↑(4 : Nat) : Int),
      (4294967296 : Int) ≠ (0 : Int),
      decide (IntKind.wrap IntKind.i64 (IntKind.wrap IntKind.i64 ((0 : Int) + (1 : Int)) + (1 : Int)) < (2 : Int)) = false,
      (0 : Int) ≤ IntKind.wrap IntKind.i64 (IntKind.wrap IntKind.i64 ((0 : Int) + (1 : Int)) + (2 : Int)),
      IntKind.wrap IntKind.i64 (IntKind.wrap IntKind.i64 ((0 : Int) + (1 : Int)) + (2 : Int)) < (↑(4 : Nat) : Int),
      (0 : Int) ≤ IntKind.wrap IntKind.i64 (IntKind.wrap IntKind.i64 ((0 : Int) + (1 : Int)) + (2 : Int)),
      IntKind.wrap IntKind.i64 (IntKind.wrap IntKind.i64 ((0 : Int) + (1 : Int)) + (2 : Int)) < (↑(4 : Nat) : Int),
      decide (IntKind.wrap IntKind.i64 (IntKind.wrap IntKind.i64 ((0 : Int) + (1 : Int)) + (1 : Int)) < (2 : Int)) = false,
      Int.tmod (IntKind.wrap IntKind.u64 (IntKind.wrap IntKind.u64 (IntKind.wrap IntKind.u64 (d0 a * d0 b) + (0 : Int)) + (0 : Int))) (4294967296 : Int) = o00,
      Int.tmod (IntKind.wrap IntKind.u64 (IntKind.wrap IntKind.u64 (IntKind.wrap IntKind.u64 (d1 a * d0 b) + Int.tmod (IntKind.wrap IntKind.u64 (IntKind.wrap IntKind.u64 (IntKind.wrap IntKind.u64 (d0 a * d1 b) + (0 : Int)) + IntKind.wrap IntKind.u64 (Int.tdiv (IntKind.wrap IntKind.u64 (IntKind.wrap IntKind.u64 (IntKind.wrap IntKind.u64 (d0 a * d0 b) + (0 : Int)) + (0 : Int))) (4294967296 : Int)))) (4294967296 : Int)) + (0 : Int))) (4294967296 : Int) = o10,
      Int.tmod (IntKind.wrap IntKind.u64 (IntKind.wrap IntKind.u64 (IntKind.wrap IntKind.u64 (d1 a * d1 b) + IntKind.wrap IntKind.u64 ((0 : Int) + IntKind.wrap IntKind.u64 (Int.tdiv (IntKind.wrap IntKind.u64 (IntKind.wrap IntKind.u64 (IntKind.wrap IntKind.u64 (d0 a * d1 b) + (0 : Int)) + IntKind.wrap IntKind.u64 (Int.tdiv (IntKind.wrap IntKind.u64 (IntKind.wrap IntKind.u64 (IntKind.wrap IntKind.u64 (d0 a * d0 b) + (0 : Int)) + (0 : Int))) (4294967296 : Int)))) (4294967296 : Int)))) + IntKind.wrap IntKind.u64 (Int.tdiv (IntKind.wrap IntKind.u64 (IntKind.wrap IntKind.u64 (IntKind.wrap IntKind.u64 (d1 a * d0 b) + Int.tmod (IntKind.wrap IntKind.u64 (IntKind.wrap IntKind.u64 (IntKind.wrap IntKind.u64 (d0 a * d1 b) + (0 : Int)) + IntKind.wrap IntKind.u64 (Int.tdiv (IntKind.wrap IntKind.u64 (IntKind.wrap IntKind.u64 (IntKind.wrap IntKind.u64 (d0 a * d0 b) + (0 : Int)) + (0 : Int))) (4294967296 : Int)))) (4294967296 : Int)) + (0 : Int))) (4294967296 : Int)))) (4294967296 : Int) = o11,
      IntKind.wrap IntKind.u64 ((0 : Int) + IntKind.wrap IntKind.u64 (Int.tdiv (IntKind.wrap IntKind.u64 (IntKind.wrap IntKind.u64 (IntKind.wrap IntKind.u64 (d1 a * d1 b) + IntKind.wrap IntKind.u64 ((0 : Int) + IntKind.wrap IntKind.u64 (Int.tdiv (IntKind.wrap IntKind.u64 (IntKind.wrap IntKind.u64 (IntKind.wrap IntKind.u64 (d0 a * d1 b) + (0 : Int)) + IntKind.wrap IntKind.u64 (Int.tdiv (IntKind.wrap IntKind.u64 (IntKind.wrap IntKind.u64 (IntKind.wrap IntKind.u64 (d0 a * d0 b) + (0 : Int)) + (0 : Int))) (4294967296 : Int)))) (4294967296 : Int)))) + IntKind.wrap IntKind.u64 (Int.tdiv (IntKind.wrap IntKind.u64 (IntKind.wrap IntKind.u64 (IntKind.wrap IntKind.u64 (d1 a * d0 b) + Int.tmod (IntKind.wrap IntKind.u64 (IntKind.wrap IntKind.u64 (IntKind.wrap IntKind.u64 (d0 a * d1 b) + (0 : Int)) + IntKind.wrap IntKind.u64 (Int.tdiv (IntKind.wrap IntKind.u64 (IntKind.wrap IntKind.u64 (IntKind.wrap IntKind.u64 (d0 a * d0 b) + (0 : Int)) + (0 : Int))) (4294967296 : Int)))) (4294967296 : Int)) + (0 : Int))) (4294967296 : Int)))) (4294967296 : Int))) = s3]) (by kernel_rfl) (.cons (by omega) (.cons (by omega) (.cons (by omega) (.cons (by omega) (.cons (by rfl) (.cons (by rfl) (.cons (by trivial) (.cons (by trivial) (.cons (by trivial) (.cons (by trivial) (.cons (by trivial) (.cons (by trivial) (.cons (by trivial) (.cons (by trivial) (.cons (by trivial) (.cons (by trivial) (.cons (by rfl) (.cons (by trivial) (.cons (by trivial) (.cons (by trivial) (.cons (by trivial) (.cons (by trivial) (.cons (by trivial) (.cons (by trivial) (.cons (by trivial) (.cons (by trivial) (.cons (by trivial) (.cons (by rfl) (.cons (by trivial) (.cons (by trivial) (.cons (by trivial) (.cons (by trivial) (.cons (by rfl) (.cons (by rfl) (.cons (by trivial) (.cons (by trivial) (.cons (by trivial) (.cons (by trivial) (.cons (by trivial) (.cons (by trivial) (.cons (by trivial) (.cons (by trivial) (.cons (by trivial) (.cons (by trivial) (.cons (by rfl) (.cons (by trivial) (.cons (by trivial) (.cons (by trivial) (.cons (by trivial) (.cons (by trivial) (.cons (by trivial) (.cons (by trivial) (.cons (by trivial) (.cons (by trivial) (.cons (by trivial) (.cons (by rfl) (.cons (by trivial) (.cons (by trivial) (.cons (by trivial) (.cons (by trivial) (.cons (by rfl) (.cons (by (subst_vars; rfl)) (.cons (by (subst_vars; rfl)) (.cons (by (subst_vars; rfl)) (.cons (by (subst_vars; rfl)) .nil)))))))))))))))))))))))))))))))))))))))))))))))))))))))))))))))))
theorem times_w (a b : Int) (ha : 0 ≤ a ∧ a ≤ 18446744073709551615) (hb : 0 ≤ b ∧ b ≤ 18446744073709551615) : PureOk Try.prog 39 [uA a, uA b] (.nv (wD (a * b))) := by
  obtain ⟨a0, ea0⟩ : ∃ x, d0 a = x := ⟨_, rfl⟩
  obtain ⟨a1, ea1⟩ : ∃ x, d1 a = x := ⟨_, rfl⟩
  obtain ⟨b0, eb0⟩ : ∃ x, d0 b = x := ⟨_, rfl⟩
  obtain ⟨b1, eb1⟩ : ∃ x, d1 b = x := ⟨_, rfl⟩
  have k0 : dig a0 := by unfold d0 at ea0; unfold dig; omega
  have k1 : dig a1 := by unfold d1 at ea1; unfold dig; omega
  have l0 : dig b0 := by unfold d0 at eb0; unfold dig; omega
  have l1 : dig b1 := by unfold d1 at eb1; unfold dig; omega
  have ea : a = a0 + 4294967296 * a1 := by unfold d0 at ea0; unfold d1 at ea1; omega
  have eb : b = b0 + 4294967296 * b1 := by unfold d0 at eb0; unfold d1 at eb1; omega
  have hm : a * b = a0 * b0 + 4294967296 * (a0 * b1) + 4294967296 * (a1 * b0) + 18446744073709551616 * (a1 * b1) := by rw [ea, eb]; exact prod_digs a0 a1 b0 b1
  have h00 := prod_dig k0 l0
  have h01 := prod_dig k0 l1
  have h10 := prod_dig k1 l0
  have h11 := prod_dig k1 l1
  obtain ⟨n00, q1⟩ : ∃ n, n = a0 * b0 := ⟨_, rfl⟩
  obtain ⟨c00, q2⟩ : ∃ n, n = n00 / 4294967296 := ⟨_, rfl⟩
  obtain ⟨o00, q3⟩ : ∃ n, n = n00 % 4294967296 := ⟨_, rfl⟩
  obtain ⟨n01, q4⟩ : ∃ n, n = a0 * b1 + c00 := ⟨_, rfl⟩
  obtain ⟨c01, q5⟩ : ∃ n, n = n01 / 4294967296 := ⟨_, rfl⟩
  obtain ⟨o01, q6⟩ : ∃ n, n = n01 % 4294967296 := ⟨_, rfl⟩
  obtain ⟨n10, q7⟩ : ∃ n, n = a1 * b0 + o01 := ⟨_, rfl⟩
  obtain ⟨c10, q8⟩ : ∃ n, n = n10 / 4294967296 := ⟨_, rfl⟩
  obtain ⟨o10, q9⟩ : ∃ n, n = n10 % 4294967296 := ⟨_, rfl⟩
  obtain ⟨n11, q10⟩ : ∃ n, n = a1 * b1 + c01 + c10 := ⟨_, rfl⟩
  obtain ⟨c11, q11⟩ : ∃ n, n = n11 / 4294967296 := ⟨_, rfl⟩
  obtain ⟨o11, q12⟩ : ∃ n, n = n11 % 4294967296 := ⟨_, rfl⟩
  obtain ⟨e0, e1, e2, e3⟩ := eq_d (x := a * b) (a := o00) (b := o10) (c := o11) (d := c11) (by unfold dig; omega) (by unfold dig; omega) (by unfold dig; omega) (by unfold dig; omega) (by unfold val4; omega)
  simp only [wD, e0, e1, e2, e3]
  exact times_pure a b ha hb a0 a1 b0 b1 n00 c00 o00 n01 c01 o01 c01 n10 c10 o10 n11 c11 o11 c11 ea0 ea1 eb0 eb1
    (w4 h00 (by omega) (by omega) (by omega)) (wdiv (by omega) q2) (tmodP (by omega) q3) (w4 h01 (by omega) (by omega) (by omega)) (wdiv (by omega) q5) (tmodP (by omega) q6)
    (wU64 (by omega) (by omega)) (w4 h10 (by omega) (by omega) (by omega)) (wdiv (by omega) q8) (tmodP (by omega) q9) (w4 h11 (by omega) (by omega) (by omega)) (wdiv (by omega) q11) (tmodP (by omega) q12) (wU64 (by omega) (by omega))
def gTimes : List SV → Option (SV × List Prop)
  | [.nv (.one (.val (.int .u64 a))), .nv (.one (.val (.int .u64 b)))] => some (.nv (wD (a * b)), [0 ≤ a, a ≤ 18446744073709551615, 0 ≤ b, b ≤ 18446744073709551615])
  | _ => none
theorem spTimes : SpOk Try.prog 39 (pureS gTimes) := pureS_ok (by
  intro args r obl h ho
  unfold gTimes at h
  split at h
  · simp only [Option.some.injEq, Prod.mk.injEq] at h
    obtain ⟨rfl, rfl⟩ := h
    simp only [AllT, and_true] at ho
    obtain ⟨h0, h1, h2⟩ := ho
    exact ⟨rfl, rfl, times_w _ _ ⟨h0, h1⟩ h2⟩
  · cases h)
def RkAG : List (FuncId × Sp) := (39, pureS gTimes) :: RkA7
theorem RkAG_ok : CtxOk Try.prog RkAG := ctx_cons (enter_of Try.func39 (by kernel_rfl) (by kernel_rfl)) spTimes RkA7_ok
end Go.Proofs.Ytkgkelfdmkginaa
