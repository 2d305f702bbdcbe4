/- math/bits.Mul64, Add64, Sub64: what each gives, for the symbolic run. No condition. -/
import Derived.Test.YtlmeemilikladaaEC
import Derived.Test.YtlmeemilikladaaBm1
import Derived.Shelf.Spec.BitsCarry
namespace Go.Proofs.Ytlmeemilikladaa
set_option linter.unusedVariables false
set_option linter.unusedSimpArgs false
open Go.RowKit E

def gMul64 : List SV → Option (SV × List Prop)
  | [.nv (.one (.val (.int .u64 x))), .nv (.one (.val (.int .u64 y)))] =>
    some (.tup [.one (.val (.int .u64 (x * y / 18446744073709551616))), .one (.val (.int .u64 (x * y % 18446744073709551616)))], [0 ≤ x, x ≤ 18446744073709551615, 0 ≤ y, y ≤ 18446744073709551615])
  | _ => none
theorem spMul64 : SpOk Try.prog 26 (pureS gMul64) := pureS_ok (by
  intro args r obl h ho
  unfold gMul64 at h
  split at h
  · rename_i x y
    simp only [Option.some.injEq, Prod.mk.injEq] at h
    obtain ⟨rfl, rfl⟩ := h
    simp only [AllT, and_true] at ho
    obtain ⟨h1, h2, h3, h4⟩ := ho
    refine ⟨rfl, rfl, ?_⟩
    obtain ⟨x, rfl⟩ := Int.eq_ofNat_of_zero_le h1
    obtain ⟨y, rfl⟩ := Int.eq_ofNat_of_zero_le h3
    exact mul64 x y (by omega) (by omega)
  · cases h)
def gAdd64 : List SV → Option (SV × List Prop)
  | [.nv (.one (.val (.int .u64 x))), .nv (.one (.val (.int .u64 y))), .nv (.one (.val (.int .u64 c)))] =>
    some (.tup [.one (.val (.int .u64 ((x + y + c) % 18446744073709551616))), .one (.val (.int .u64 ((x + y + c) / 18446744073709551616)))], [0 ≤ x, 0 ≤ y, 0 ≤ c, c ≤ 1])
  | _ => none
def gSub64 : List SV → Option (SV × List Prop)
  | [.nv (.one (.val (.int .u64 x))), .nv (.one (.val (.int .u64 y))), .nv (.one (.val (.int .u64 c)))] =>
    some (.tup [.one (.val (.int .u64 ((x - y - c) % 18446744073709551616))), .one (.val (.int .u64 (if x < y + c then 1 else 0)))], [0 ≤ x, x ≤ 18446744073709551615, 0 ≤ y, y ≤ 18446744073709551615, 0 ≤ c, c ≤ 1])
  | _ => none
theorem three_vals {args : List SV} {x y c : Int} (ha : args = [.nv (.one (.val (.int .u64 x))), .nv (.one (.val (.int .u64 y))), .nv (.one (.val (.int .u64 c)))]) (env : Env) (us : List Value) (h : AllSV env args us) : us.toArray = #[.int .u64 x, .int .u64 y, .int .u64 c] := by
  subst ha
  match us, h with
  | [a, b, d], ⟨h1, h2, h3, _⟩ => rw [show a = _ from h1, show b = _ from h2, show d = _ from h3]
theorem exAdd64 : ExtOk Try.prog 34 (pureS gAdd64) := ext_ok (by
  intro args r obl h ho
  unfold gAdd64 at h
  split at h
  · rename_i x y c
    simp only [Option.some.injEq, Prod.mk.injEq] at h
    obtain ⟨rfl, rfl⟩ := h
    simp only [AllT, and_true] at ho
    obtain ⟨h1, h2, h3, h4⟩ := ho
    refine ⟨_, three_vals rfl, .tuple #[.int .u64 ((x + y + c) % 18446744073709551616), .int .u64 ((x + y + c) / 18446744073709551616)], fun env => ⟨_, rfl, rfl, rfl, trivial⟩, fun w => ?_⟩
    rw [run_callFunc_extern Try.func34 (by kernel_rfl) (by kernel_rfl) (by kernel_rfl) (e := add64Entry) (by kernel_rfl), run_add64 x y c h1 h2 h3 h4]
    rfl
  · cases h)
theorem exSub64 : ExtOk Try.prog 27 (pureS gSub64) := ext_ok (by
  intro args r obl h ho
  unfold gSub64 at h
  split at h
  · rename_i x y c
    simp only [Option.some.injEq, Prod.mk.injEq] at h
    obtain ⟨rfl, rfl⟩ := h
    simp only [AllT, and_true] at ho
    obtain ⟨h1, h2, h3, h4, h5, h6⟩ := ho
    obtain ⟨x, rfl⟩ := Int.eq_ofNat_of_zero_le h1
    obtain ⟨y, rfl⟩ := Int.eq_ofNat_of_zero_le h3
    obtain ⟨c, rfl⟩ := Int.eq_ofNat_of_zero_le h5
    refine ⟨_, three_vals rfl, .tuple #[.int .u64 (((x : Int) - y - c) % 18446744073709551616), .int .u64 (if (x : Int) < y + c then 1 else 0)], fun env => ⟨_, rfl, rfl, rfl, trivial⟩, fun w => ?_⟩
    rw [run_callFunc_extern Try.func27 (by kernel_rfl) (by kernel_rfl) (by kernel_rfl) (e := sub64Entry) (by kernel_rfl), run_sub64 x y c (by omega)]
    have e1 : ((((x + 18446744073709551616 - y - c) % 18446744073709551616 : Nat)) : Int) = ((x : Int) - y - c) % 18446744073709551616 := by omega
    have e2 : (((if x < y + c then 1 else 0 : Nat)) : Int) = if (x : Int) < y + c then 1 else 0 := by split <;> split <;> omega
    rw [e1, e2]
    rfl
  · cases h)
end Go.Proofs.Ytlmeemilikladaa
