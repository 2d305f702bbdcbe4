/- The document's ticks of meters. No condition. -/
import Derived.Test.YtlmeemilikladaaMhD
namespace Go.Proofs.Ytlmeemilikladaa
set_option linter.unusedVariables false
set_option linter.unusedSimpArgs false
open Go.RowKit E

theorem mul_bd {a b : Int} (ha : 0 ≤ a ∧ a ≤ 18446744073709551615) (hb : 0 ≤ b ∧ b ≤ 18446744073709551615) : 0 ≤ a * b ∧ a * b ≤ 340282366920938463463374607431768211455 := by
  refine ⟨Int.mul_nonneg ha.1 hb.1, ?_⟩
  have h1 : a * b ≤ 18446744073709551615 * b := Int.mul_le_mul_of_nonneg_right ha.2 hb.1
  omega
theorem up_least {a n c : Int} (ha : 0 ≤ a ∧ a ≤ n) (hc : 0 ≤ c) : a + leastV c (n - a) = upTo a n c := by unfold leastV upTo; split <;> split <;> omega
theorem rtick1_pure (r n f a b t : Int) (hr : 0 ≤ r ∧ r ≤ 18446744073709551615) (hn : 0 ≤ n ∧ n ≤ 18446744073709551615) (hf : 0 ≤ f ∧ f ≤ 18446744073709551615) (ha : 0 ≤ a ∧ a ≤ 18446744073709551615) (hb : 0 ≤ b ∧ b ≤ 18446744073709551615) (ht : 0 ≤ t ∧ t ≤ 18446744073709551615) :
    PureOk Try.prog 16 [.nv (oneN r n f a b), uA t] (.nv (oneN (ifm (ckOne r n f a b) r) (ifm (ckOne r n f a b) n) (ifm (ckOne r n f a b) f) (ifm (ckOne r n f a b) (upTo a n (r * t))) (ifm (ckOne r n f a b) (upTo b f (over a n (r * t)))))) := by
  by_cases hk : ckOne r n f a b = 0
  · simp only [hk, ifm, if_true]
    obtain ⟨k1, k2, k3, k4⟩ := ck1_iff.1 hk
    have p0 := mul_bd hr ht
    have u1 := up_least (n := n) ⟨ha.1, k3⟩ p0.1
    have b1 := upTo_bd (n := n) ha.1 p0.1 k3
    have eo : r * t - leastV (r * t) (n - a) = over a n (r * t) := by unfold leastV over; split <;> split <;> omega
    have on := over_nn (a := a) (n := n) (c := r * t)
    have u2 := up_least (n := f) ⟨hb.1, k4⟩ on
    have b2 := upTo_bd (n := f) hb.1 on k4
    have hl : leastV (r * t) (n - a) ≤ r * t ∧ leastV (r * t) (n - a) ≤ n - a ∧ 0 ≤ leastV (r * t) (n - a) := by unfold leastV; split <;> omega
    exact rtick1_ok r n f a b t _ _ _ _ _ _ _ _ hr hn hf ha hb ht hk rfl (dig_d p0) (val4_d p0.1) (wsub ⟨ha.1, k3⟩ hn.2) (by omega) rfl (by omega) hl.1 (dig_d (by omega)) (val4_d hl.2.2) eo (dig_d (by omega)) (val4_d on) (wsub ⟨hb.1, k4⟩ hf.2) (by omega) rfl (wU64 u1 (by omega)) (wU64 u2 (by omega))
  · simp only [ifm, if_neg hk]
    exact rtick1_bad r n f a b t hr hn hf ha hb hk
theorem rtick2_pure (s q n f a b t : Int) (hs : 0 ≤ s ∧ s ≤ 18446744073709551615) (hq : 0 ≤ q ∧ q ≤ 18446744073709551615) (hn : 0 ≤ n ∧ n ≤ 18446744073709551615) (hf : 0 ≤ f ∧ f ≤ 18446744073709551615) (ha : 0 ≤ a ∧ a ≤ 18446744073709551615) (hb : 0 ≤ b ∧ b ≤ 18446744073709551615) (ht : 0 ≤ t ∧ t ≤ 18446744073709551615) :
    PureOk Try.prog 17 [.nv (twoN s q n f a b), uA t] (.nv (twoN (ifm (ckTwo s q n f a b) s) (ifm (ckTwo s q n f a b) q) (ifm (ckTwo s q n f a b) n) (ifm (ckTwo s q n f a b) f) (ifm (ckTwo s q n f a b) (upTo a n (s * t))) (ifm (ckTwo s q n f a b) (upTo b f (q * t))))) := by
  by_cases hk : ckTwo s q n f a b = 0
  · simp only [hk, ifm, if_true]
    obtain ⟨k1, k2, k3, k4, k5, k6⟩ := ck2_iff.1 hk
    have p1 := mul_bd hs ht
    have p2 := mul_bd hq ht
    have u1 := up_least (n := n) ⟨ha.1, k5⟩ p1.1
    have b1 := upTo_bd (n := n) ha.1 p1.1 k5
    have u2 := up_least (n := f) ⟨hb.1, k6⟩ p2.1
    have b2 := upTo_bd (n := f) hb.1 p2.1 k6
    exact rtick2_ok s q n f a b t _ _ _ _ _ _ _ _ hs hq hn hf ha hb ht hk rfl (dig_d p1) (val4_d p1.1) rfl (dig_d p2) (val4_d p2.1) (wsub ⟨ha.1, k5⟩ hn.2) (by omega) rfl (wsub ⟨hb.1, k6⟩ hf.2) (by omega) rfl (wU64 u1 (by omega)) (wU64 u2 (by omega))
  · simp only [ifm, if_neg hk]
    exact rtick2_bad s q n f a b t hs hq hn hf ha hb hk
theorem spRTick1 : SpOk Try.prog 16 (pureS gTick1) := pureS_ok (by
  intro args r obl h ho
  unfold gTick1 at h
  split at h
  · simp only [Option.some.injEq, Prod.mk.injEq] at h
    obtain ⟨rfl, rfl⟩ := h
    simp only [AllT, and_true] at ho
    obtain ⟨h1, h2, h3, h4, h5, h6, h7, h8, h9, h10, h11⟩ := ho
    exact ⟨rfl, rfl, rtick1_pure _ _ _ _ _ _ ⟨h1, h2⟩ ⟨h3, h4⟩ ⟨h5, h6⟩ ⟨h7, h8⟩ ⟨h9, h10⟩ h11⟩
  · cases h)
theorem spRTick2 : SpOk Try.prog 17 (pureS gTick2) := pureS_ok (by
  intro args r obl h ho
  unfold gTick2 at h
  split at h
  · simp only [Option.some.injEq, Prod.mk.injEq] at h
    obtain ⟨rfl, rfl⟩ := h
    simp only [AllT, and_true] at ho
    obtain ⟨h1, h2, h3, h4, h5, h6, h7, h8, h9, h10, h11, h12, h13⟩ := ho
    exact ⟨rfl, rfl, rtick2_pure _ _ _ _ _ _ _ ⟨h1, h2⟩ ⟨h3, h4⟩ ⟨h5, h6⟩ ⟨h7, h8⟩ ⟨h9, h10⟩ ⟨h11, h12⟩ h13⟩
  · cases h)
end Go.Proofs.Ytlmeemilikladaa
