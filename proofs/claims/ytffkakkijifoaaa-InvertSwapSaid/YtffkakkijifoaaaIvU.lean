/- invert, in plain numbers: rows that never fall; two numbers that change places. No condition. -/
import Derived.Test.YtffkakkijifoaaaIvT
namespace Go.Proofs.Ytffkakkijifoaaa
set_option linter.unusedVariables false
set_option linter.unusedSimpArgs false
open Go.RowKit E
theorem falls_iff (L : Nat → Int) : ∀ N, fallsB L N = true ↔ ∃ i, i < N ∧ 0 < i ∧ L i < L (i - 1)
  | 0 => by simp [fallsB]
  | N + 1 => by
    unfold fallsB
    rw [Bool.or_eq_true, Bool.and_eq_true, decide_eq_true_eq, decide_eq_true_eq, falls_iff L N]
    constructor
    · rintro (⟨i, h1, h2⟩ | ⟨h1, h2⟩)
      · exact ⟨i, by omega, h2⟩
      · exact ⟨N, by omega, h1, h2⟩
    · rintro ⟨i, h1, h2, h3⟩
      by_cases q : i = N
      · subst q; exact .inr ⟨h2, h3⟩
      · exact .inl ⟨i, by omega, h2, h3⟩
theorem mono_of {L : Nat → Int} {N : Nat} (h : ∀ i, i < N → 0 < i → L (i - 1) ≤ L i) : ∀ j i, i ≤ j → j < N → L i ≤ L j
  | 0, i, h1, _ => by have : i = 0 := by omega
                      subst this; exact Int.le_refl _
  | j + 1, i, h1, h2 => by
    by_cases q : i = j + 1
    · subst q; exact Int.le_refl _
    · have a := mono_of h j i (by omega) (by omega)
      have b := h (j + 1) h2 (by omega)
      simp only [Nat.add_sub_cancel] at b
      omega
theorem cGt_zero {L : Nat → Int} {j : Nat} : ∀ {m : Nat}, (∀ k, k < m → L k ≤ L j) → cGt L j m = 0
  | 0, _ => rfl
  | m + 1, h => by
    unfold cGt
    rw [cGt_zero (m := m) (fun k hk => h k (by omega)), if_neg (by have := h m (by omega); omega)]
theorem cGt_pos {L : Nat → Int} {j : Nat} : ∀ {m k : Nat}, k < m → L j < L k → 0 < cGt L j m
  | m + 1, k, h, g => by
    unfold cGt
    by_cases q : k = m
    · subst q; rw [if_pos g]; omega
    · have := cGt_pos (L := L) (j := j) (m := m) (k := k) (by omega) g
      omega
theorem sS_zero {L : Nat → Int} {N : Nat} (h : ∀ j i, i ≤ j → j < N → L i ≤ L j) : ∀ m, m ≤ N → sS L m = 0
  | 0, _ => rfl
  | m + 1, hm => by
    unfold sS
    rw [sS_zero h m (by omega), cGt_zero (fun k hk => h m k (by omega) (by omega))]
theorem sS_pos {L : Nat → Int} {i : Nat} (h0 : 0 < i) (h : L i < L (i - 1)) : ∀ m, i < m → 0 < sS L m
  | m + 1, hm => by
    unfold sS
    by_cases q : i = m
    · subst q
      have := cGt_pos (L := L) (j := i) (m := i) (k := i - 1) (by omega) h
      omega
    · have := sS_pos h0 h m (by omega)
      omega
theorem not_falls {L : Nat → Int} {N : Nat} (h : fallsB L N = false) : ∀ j i, i ≤ j → j < N → L i ≤ L j :=
  mono_of (fun i hi h0 => by
    rcases Int.lt_or_le (L i) (L (i - 1)) with q | q
    · rw [(falls_iff L N).2 ⟨i, hi, h0, q⟩] at h; cases h
    · exact q)
theorem none_zero (L : Nat → Int) {N : Nat} (hN : N ≤ 1000) : ((sumW (srt L N).d N == 0) == !fallsB L N) = true := by
  rw [sumW_eq L hN N (Nat.le_refl _)]
  cases hf : fallsB L N
  · rw [sS_zero (not_falls hf) N (Nat.le_refl _)]; rfl
  · obtain ⟨i, h1, h2, h3⟩ := (falls_iff L N).1 hf
    have := sS_pos h2 h3 N h1
    rw [beq_eq_false_iff_ne.2 (show ((sS L N : Nat) : Int) ≠ 0 by omega)]; rfl
theorem lo_rises {L : Nat → Int} {N : Nat} (h : ∀ j i, i ≤ j → j < N → L i ≤ L j) {i : Nat} (hi : i < N) (e : ∀ k, k < i → eR L i k = k + 1) : ∀ k, k ≤ i → lo L (eR L i) i k = k + 1
  | 0, _ => rfl
  | k + 1, hk => by
    unfold lo
    rw [lo_rises h hi e k (by omega), e k (by omega), if_pos ⟨h i k (by omega) hi, by omega⟩]
    omega
theorem eR_rises {L : Nat → Int} {N : Nat} (h : ∀ j i, i ≤ j → j < N → L i ≤ L j) : ∀ i, i ≤ N → (∀ k, k < i → eR L i k = k + 1) ∧ moR L i = i
  | 0, _ => ⟨fun k hk => by omega, rfl⟩
  | i + 1, hi => by
    obtain ⟨h1, h2⟩ := eR_rises h i (by omega)
    have hl := lo_rises h (i := i) (by omega) h1 i (Nat.le_refl _)
    refine ⟨fun k hk => ?_, ?_⟩
    · simp only [eR, putF]
      by_cases q : k = i
      · subst q; rw [if_pos rfl]; exact hl
      · rw [if_neg q]; exact h1 k (by omega)
    · unfold moR
      rw [hl, h2, if_pos (by omega)]; omega
theorem eR_falls {L : Nat → Int} {i0 : Nat} (h0 : 0 < i0) (hf : L i0 < L (i0 - 1)) : ∀ m, (∀ k, i0 ≤ k → k < m → eR L m k ≤ k) ∧ (i0 < m → moR L m ≤ (m : Int) - 1)
  | 0 => ⟨fun k h1 h2 => by omega, fun h => by omega⟩
  | m + 1 => by
    obtain ⟨h1, h2⟩ := eR_falls h0 hf m
    have hlo : i0 ≤ m → lo L (eR L m) m m ≤ m := fun hm => by
      have step : ∀ j, i0 < j → j ≤ m → lo L (eR L m) m j ≤ j := by
        intro j hj hjm
        refine lo_up L _ m _ (by omega) j (fun k hk hl => ?_)
        by_cases q : i0 ≤ k
        · have := h1 k q (by omega); omega
        · have := eR_bd L m k; omega
      by_cases q : i0 = m
      · subst q
        refine lo_up L _ i0 _ (by omega) i0 (fun k hk hl => ?_)
        have := eR_bd L i0 k
        have : k ≠ i0 - 1 := fun e => by rw [e] at hl; omega
        omega
      · exact step m (by omega) (Nat.le_refl _)
    refine ⟨fun k hk1 hk2 => ?_, fun hm => ?_⟩
    · simp only [eR, putF]
      by_cases q : k = m
      · subst q; rw [if_pos rfl]; exact hlo hk1
      · rw [if_neg q]; exact h1 k hk1 (by omega)
    · have l := hlo (by omega)
      have b := moR_bd L m
      unfold moR
      split <;> omega
theorem none_long (L : Nat → Int) (N : Nat) : ((((enS L N).m : Nat) == (N : Int)) == !fallsB L N) = true := by
  rw [(pat L N).most]
  cases hf : fallsB L N
  · rw [(eR_rises (not_falls hf) N (Nat.le_refl _)).2, beq_self_eq_true]; rfl
  · obtain ⟨i, h1, h2, h3⟩ := (falls_iff L N).1 hf
    have := (eR_falls h2 h3 N).2 h1
    rw [beq_eq_false_iff_ne.2 (show moR L N ≠ (N : Int) by omega)]; rfl
theorem ordM_eq (L : Nat → Int) (N : Nat) : ∀ m k, k < m → ordM L N m k = L (tn (srt L N).p k)
  | m + 1, k, h => by
    unfold ordM putF
    by_cases q : k = m
    · subst q; rw [if_pos rfl]; rfl
    · rw [if_neg q]; exact ordM_eq L N m k (by omega)
theorem none_ord (L : Nat → Int) {N : Nat} (hN : N ≤ 1000) : (sumW (srt (ordM L N N) N).d N == 0) = true := by
  rw [sumW_eq _ hN N (Nat.le_refl _), sS_zero (N := N) (fun j i h1 h2 => ?_) N (Nat.le_refl _)]
  · rfl
  · rw [ordM_eq L N N i (by omega), ordM_eq L N N j h2]
    by_cases q : i = j
    · subst q; exact Int.le_refl _
    · have := (srt_win L hN).1.srt i j (by omega) h2
      rw [Nat.zero_add, Nat.zero_add] at this
      exact ahd_le this
/-! two numbers side by side change places -/
theorem cGt_ext {L M : Nat → Int} {j i : Nat} (e : L j = M i) : ∀ {m : Nat}, (∀ k, k < m → L k = M k) → cGt L j m = cGt M i m
  | 0, _ => rfl
  | m + 1, h => by
    unfold cGt
    rw [cGt_ext e (m := m) (fun k hk => h k (by omega)), e, h m (by omega)]
theorem swp_lo (L : Nat → Int) (k : Nat) {j : Nat} (h : j < k) : swpF L k j = L j := by unfold swpF; rw [if_neg (by omega), if_neg (by omega)]
theorem swp_hi (L : Nat → Int) (k : Nat) {j : Nat} (h : k + 1 < j) : swpF L k j = L j := by unfold swpF; rw [if_neg (by omega), if_neg (by omega)]
theorem swp_0 (L : Nat → Int) (k : Nat) : swpF L k k = L (k + 1) := by unfold swpF; rw [if_pos rfl]
theorem swp_1 (L : Nat → Int) (k : Nat) : swpF L k (k + 1) = L k := by unfold swpF; rw [if_neg (by omega), if_pos rfl]
theorem cGt_swp (L : Nat → Int) (k j : Nat) (hj : k + 1 < j) : ∀ d, cGt (swpF L k) j (k + 2 + d) = cGt L j (k + 2 + d)
  | 0 => by
    show cGt (swpF L k) j k + (if swpF L k j < swpF L k k then 1 else 0) + (if swpF L k j < swpF L k (k + 1) then 1 else 0) = cGt L j k + (if L j < L k then 1 else 0) + (if L j < L (k + 1) then 1 else 0)
    rw [cGt_ext (L := swpF L k) (M := L) (swp_hi L k hj) (fun t ht => swp_lo L k ht), swp_hi L k hj, swp_0, swp_1]
    omega
  | d + 1 => by
    show cGt (swpF L k) j (k + 2 + d) + (if swpF L k j < swpF L k (k + 2 + d) then 1 else 0) = cGt L j (k + 2 + d) + (if L j < L (k + 2 + d) then 1 else 0)
    rw [cGt_swp L k j hj d, swp_hi L k hj, swp_hi L k (by omega)]
theorem sS_lo (L : Nat → Int) (k : Nat) : ∀ m, m ≤ k → sS (swpF L k) m = sS L m
  | 0, _ => rfl
  | m + 1, h => by
    unfold sS
    rw [sS_lo L k m (by omega), cGt_ext (L := swpF L k) (M := L) (swp_lo L k (by omega)) (fun t ht => swp_lo L k (by omega))]
theorem sS_swp (L : Nat → Int) (k : Nat) : ∀ d, sS (swpF L k) (k + 2 + d) + (if L (k + 1) < L k then 1 else 0) = sS L (k + 2 + d) + (if L k < L (k + 1) then 1 else 0)
  | 0 => by
    show sS (swpF L k) k + cGt (swpF L k) k k + (cGt (swpF L k) (k + 1) k + (if swpF L k (k + 1) < swpF L k k then 1 else 0)) + _ = sS L k + cGt L k k + (cGt L (k + 1) k + (if L (k + 1) < L k then 1 else 0)) + _
    rw [sS_lo L k k (Nat.le_refl _), cGt_ext (L := swpF L k) (M := L) (i := k + 1) (swp_0 L k) (fun t ht => swp_lo L k ht), cGt_ext (L := swpF L k) (M := L) (i := k) (swp_1 L k) (fun t ht => swp_lo L k ht), swp_0, swp_1]
    omega
  | d + 1 => by
    have := sS_swp L k d
    have := cGt_swp L k (k + 2 + d) (by omega) d
    show sS (swpF L k) (k + 2 + d) + cGt (swpF L k) (k + 2 + d) (k + 2 + d) + _ = sS L (k + 2 + d) + cGt L (k + 2 + d) (k + 2 + d) + _
    omega
theorem swap_eq (L : Nat → Int) (k N : Nat) (h : k + 1 < N) : sS (swpF L k) N + (if L (k + 1) < L k then 1 else 0) = sS L N + (if L k < L (k + 1) then 1 else 0) := by
  have := sS_swp L k (N - (k + 2))
  rwa [show k + 2 + (N - (k + 2)) = N by omega] at this
end Go.Proofs.Ytffkakkijifoaaa
