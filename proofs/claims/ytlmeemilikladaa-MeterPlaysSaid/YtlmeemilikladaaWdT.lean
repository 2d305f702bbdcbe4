/- Wide numbers: Times. No condition. -/
import Derived.Test.YtlmeemilikladaaWd3
namespace Go.Proofs.Ytlmeemilikladaa
set_option linter.unusedVariables false
set_option linter.unusedSimpArgs false
open Go.RowKit E

theorem prod_digs (a0 a1 b0 b1 : Int) : (a0 + 4294967296 * a1) * (b0 + 4294967296 * b1) = a0 * b0 + 4294967296 * (a0 * b1) + 4294967296 * (a1 * b0) + 18446744073709551616 * (a1 * b1) := by
  rw [Int.add_mul, Int.mul_add, Int.mul_add, Int.mul_left_comm a0 4294967296 b1, Int.mul_assoc 4294967296 a1 b0, Int.mul_assoc 4294967296 a1 (4294967296 * b1), Int.mul_left_comm a1 4294967296 b1]
  omega
theorem prod_dig {a b : Int} (ha : dig a) (hb : dig b) : 0 ≤ a * b ∧ a * b ≤ 18446744065119617025 := by
  unfold dig at *
  refine ⟨Int.mul_nonneg ha.1 hb.1, ?_⟩
  have h1 : a * b ≤ 4294967295 * b := Int.mul_le_mul_of_nonneg_right ha.2 hb.1
  omega
theorem w4 {p o c n : Int} (hp : 0 ≤ p ∧ p ≤ 18446744065119617025) (ho : 0 ≤ o ∧ o ≤ 4294967295) (hc : 0 ≤ c ∧ c ≤ 4294967295) (hn : p + o + c = n) : IntKind.wrap IntKind.u64 (IntKind.wrap IntKind.u64 (IntKind.wrap IntKind.u64 p + o) + c) = n := by
  rw [wU64 (a := p) (b := p) rfl (by omega), wU64 (a := p + o) (b := p + o) rfl (by omega)]; exact wU64 hn (by omega)
theorem times_w (a b : Int) (ha : 0 ≤ a ∧ a ≤ 18446744073709551615) (hb : 0 ≤ b ∧ b ≤ 18446744073709551615) : PureOk Try.prog 22 [uA a, uA b] (.nv (wD (a * b))) := by
  obtain ⟨a0, ea0⟩ : ∃ x, d0 a = x := ⟨_, rfl⟩
  obtain ⟨a1, ea1⟩ : ∃ x, d1 a = x := ⟨_, rfl⟩
  obtain ⟨b0, eb0⟩ : ∃ x, d0 b = x := ⟨_, rfl⟩
  obtain ⟨b1, eb1⟩ : ∃ x, d1 b = x := ⟨_, rfl⟩
  have k0 : dig a0 := by unfold d0 at ea0; unfold dig; omega
  have k1 : dig a1 := by unfold d1 at ea1; unfold dig; omega
  have l0 : dig b0 := by unfold d0 at eb0; unfold dig; omega
  have l1 : dig b1 := by unfold d1 at eb1; unfold dig; omega
  have ea : a = a0 + 4294967296 * a1 := by unfold d0 at ea0; unfold d1 at ea1; omega
  have eb : b = b0 + 4294967296 * b1 := by unfold d0 at eb0; unfold d1 at eb1; omega
  have hm : a * b = a0 * b0 + 4294967296 * (a0 * b1) + 4294967296 * (a1 * b0) + 18446744073709551616 * (a1 * b1) := by rw [ea, eb]; exact prod_digs a0 a1 b0 b1
  have h00 := prod_dig k0 l0
  have h01 := prod_dig k0 l1
  have h10 := prod_dig k1 l0
  have h11 := prod_dig k1 l1
  obtain ⟨n00, q1⟩ : ∃ n, n = a0 * b0 := ⟨_, rfl⟩
  obtain ⟨c00, q2⟩ : ∃ n, n = n00 / 4294967296 := ⟨_, rfl⟩
  obtain ⟨o00, q3⟩ : ∃ n, n = n00 % 4294967296 := ⟨_, rfl⟩
  obtain ⟨n01, q4⟩ : ∃ n, n = a0 * b1 + c00 := ⟨_, rfl⟩
  obtain ⟨c01, q5⟩ : ∃ n, n = n01 / 4294967296 := ⟨_, rfl⟩
  obtain ⟨o01, q6⟩ : ∃ n, n = n01 % 4294967296 := ⟨_, rfl⟩
  obtain ⟨n10, q7⟩ : ∃ n, n = a1 * b0 + o01 := ⟨_, rfl⟩
  obtain ⟨c10, q8⟩ : ∃ n, n = n10 / 4294967296 := ⟨_, rfl⟩
  obtain ⟨o10, q9⟩ : ∃ n, n = n10 % 4294967296 := ⟨_, rfl⟩
  obtain ⟨n11, q10⟩ : ∃ n, n = a1 * b1 + c01 + c10 := ⟨_, rfl⟩
  obtain ⟨c11, q11⟩ : ∃ n, n = n11 / 4294967296 := ⟨_, rfl⟩
  obtain ⟨o11, q12⟩ : ∃ n, n = n11 % 4294967296 := ⟨_, rfl⟩
  obtain ⟨e0, e1, e2, e3⟩ := eq_d (x := a * b) (a := o00) (b := o10) (c := o11) (d := c11) (by unfold dig; omega) (by unfold dig; omega) (by unfold dig; omega) (by unfold dig; omega) (by unfold val4; omega)
  simp only [wD, e0, e1, e2, e3]
  exact times_pure a b ha hb a0 a1 b0 b1 n00 c00 o00 n01 c01 o01 c01 n10 c10 o10 n11 c11 o11 c11 ea0 ea1 eb0 eb1
    (w4 h00 (by omega) (by omega) (by omega)) (wdiv (by omega) q2) (tmodP (by omega) q3) (w4 h01 (by omega) (by omega) (by omega)) (wdiv (by omega) q5) (tmodP (by omega) q6)
    (wU64 (by omega) (by omega)) (w4 h10 (by omega) (by omega) (by omega)) (wdiv (by omega) q8) (tmodP (by omega) q9) (w4 h11 (by omega) (by omega) (by omega)) (wdiv (by omega) q11) (tmodP (by omega) q12) (wU64 (by omega) (by omega))
def gTimes : List SV → Option (SV × List Prop)
  | [.nv (.one (.val (.int .u64 a))), .nv (.one (.val (.int .u64 b)))] => some (.nv (wD (a * b)), [0 ≤ a, a ≤ 18446744073709551615, 0 ≤ b, b ≤ 18446744073709551615])
  | _ => none
theorem spTimes : SpOk Try.prog 22 (pureS gTimes) := pureS_ok (by
  intro args r obl h ho
  unfold gTimes at h
  split at h
  · simp only [Option.some.injEq, Prod.mk.injEq] at h
    obtain ⟨rfl, rfl⟩ := h
    simp only [AllT, and_true] at ho
    obtain ⟨h0, h1, h2⟩ := ho
    exact ⟨rfl, rfl, times_w _ _ ⟨h0, h1⟩ h2⟩
  · cases h)
def Gw : List (FuncId × Sp) := (22, pureS gTimes) :: Gw0
theorem Gw_ok : CtxOk Try.prog Gw := ctx_cons (enter_of Try.func22 (by kernel_rfl) (by kernel_rfl)) spTimes Gw0_ok
end Go.Proofs.Ytlmeemilikladaa
