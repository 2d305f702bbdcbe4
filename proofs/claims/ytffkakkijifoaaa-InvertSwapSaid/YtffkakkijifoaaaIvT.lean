/- invert, in plain numbers: the longest run. No condition. -/
import Derived.Test.YtffkakkijifoaaaIvS
namespace Go.Proofs.Ytffkakkijifoaaa
set_option linter.unusedVariables false
set_option linter.unusedSimpArgs false
open Go.RowKit E
theorem bsr_spec (E : Nat → Int) (x : Int) (n : Nat) (hs : ∀ s t, s < t → t < n → E s ≤ E t) : ∀ (f i j : Nat), j - i ≤ f → i ≤ j → j ≤ n → (∀ t, t < i → E t ≤ x) → (∀ t, j ≤ t → t < n → x < E t) →
    (∀ t, t < bsr E x f i j → E t ≤ x) ∧ (∀ t, bsr E x f i j ≤ t → t < n → x < E t)
  | 0, i, j, hf, hij, hj, h1, h2 => by
    have e : i = j := by omega
    subst e
    exact ⟨h1, h2⟩
  | f + 1, i, j, hf, hij, hj, h1, h2 => by
    unfold bsr
    split
    · split
      · rename_i q hx
        refine bsr_spec E x n hs f i _ (by omega) (by omega) (by omega) h1 (fun t ht1 ht2 => ?_)
        by_cases e : t = (i + j) / 2
        · subst e; exact hx
        · have := hs ((i + j) / 2) t (by omega) ht2; omega
      · rename_i q hx
        refine bsr_spec E x n hs f _ j (by omega) (by omega) hj (fun t ht => ?_) h2
        by_cases e : t = (i + j) / 2
        · subst e; omega
        · have := hs t ((i + j) / 2) (by omega) (by omega); omega
    · have e : i = j := by omega
      subst e
      exact ⟨h1, h2⟩
theorem sea_spec (E : Nat → Int) (x : Int) (n : Nat) (hs : ∀ s t, s < t → t < n → E s ≤ E t) : sea E x n ≤ n ∧ (∀ t, t < sea E x n → E t ≤ x) ∧ (∀ t, sea E x n ≤ t → t < n → x < E t) :=
  ⟨bsr_le _ _ _ _ _ (Nat.zero_le _), bsr_spec E x n hs n 0 n (by omega) (by omega) (Nat.le_refl _) (fun t h => by omega) (fun t h1 h2 => by omega)⟩
theorem lo_one (L e : Nat → Int) (i : Nat) : ∀ k, 1 ≤ lo L e i k
  | 0 => Int.le_refl _
  | k + 1 => by have := lo_one L e i k; unfold lo; split <;> omega
theorem lo_up (L e : Nat → Int) (i : Nat) (B : Int) (hB : 1 ≤ B) : ∀ m, (∀ k, k < m → L k ≤ L i → e k + 1 ≤ B) → lo L e i m ≤ B
  | 0, _ => hB
  | m + 1, h => by
    have ih := lo_up L e i B hB m (fun k hk => h k (by omega))
    unfold lo
    split
    · rename_i q; exact h m (by omega) q.1
    · exact ih
theorem lo_ge (L e : Nat → Int) (i : Nat) : ∀ (m k : Nat), k < m → L k ≤ L i → e k + 1 ≤ lo L e i m
  | m + 1, k, hk, hl => by
    unfold lo
    by_cases q : k = m
    · subst q
      split
      · omega
      · rename_i q2; have : ¬ lo L e i k < e k + 1 := fun z => q2 ⟨hl, z⟩
        omega
    · have := lo_ge L e i m k (by omega) hl
      split <;> omega
structure Pat (L : Nat → Int) (i m : Nat) (E : Nat → Int) : Prop where
  most : (m : Int) = moR L i
  srt : ∀ s t, s < t → t < m → E s ≤ E t
  has : ∀ t, t < m → ∃ k, k < i ∧ eR L i k = t + 1 ∧ L k = E t
  low : ∀ k, k < i → 1 ≤ eR L i k ∧ eR L i k ≤ m ∧ E (eR L i k - 1).toNat ≤ L k
theorem pat (L : Nat → Int) : ∀ i, Pat L i (enS L i).m (enS L i).e
  | 0 => ⟨rfl, fun s t h1 h2 => by simp [enS] at h2, fun t h => by simp [enS] at h, fun k h => by omega⟩
  | i + 1 => by
    obtain ⟨most, srt, has, low⟩ := pat L i
    simp only [enS]
    generalize enS L i = s at *
    obtain ⟨m, E⟩ := s
    simp only at most srt has low ⊢
    obtain ⟨ha, hle, hgt⟩ := sea_spec E (L i) m srt
    generalize sea E (L i) m = a at *
    have hlo : lo L (eR L i) i i = a + 1 := by
      have h1 : lo L (eR L i) i i ≤ a + 1 := lo_up L _ i _ (by omega) i (fun k hk hl => by
        obtain ⟨l1, l2, l3⟩ := low k hk
        rcases Int.lt_or_le (eR L i k) (a + 1) with q | q
        · omega
        · have := hgt (eR L i k - 1).toNat (by omega) (by omega)
          omega)
      have h2 : (a : Int) + 1 ≤ lo L (eR L i) i i := by
        by_cases q : a = 0
        · subst q; have := lo_one L (eR L i) i i; omega
        · obtain ⟨k, hk, e1, e2⟩ := has (a - 1) (by omega)
          have := hle (a - 1) (by omega)
          have := lo_ge L (eR L i) i i k hk (by omega)
          omega
      omega
    have er : ∀ k, k < i → eR L (i + 1) k = eR L i k := fun k hk => by simp only [eR, putF]; rw [if_neg (by omega)]
    have ei : eR L (i + 1) i = a + 1 := by simp only [eR, putF]; rw [if_pos trivial]; exact hlo
    have em : ∀ t, t ≠ a → putF E a (L i) t = E t := fun t ht => by unfold putF; rw [if_neg ht]
    have ea : putF E a (L i) a = L i := by unfold putF; rw [if_pos rfl]
    have hm' : ∀ t, t < (if a = m then m + 1 else m) → t = a ∨ t < m := fun t ht => by split at ht <;> omega
    have ham : a < (if a = m then m + 1 else m) := by split <;> omega
    have hmm : m ≤ (if a = m then m + 1 else m) := by split <;> omega
    refine ⟨?_, fun s t h1 h2 => ?_, fun t ht => ?_, fun k hk => ?_⟩
    · simp only [moR]
      rw [hlo, ← most]
      by_cases q : a = m
      · rw [if_pos q, if_pos (by omega)]; omega
      · rw [if_neg q, if_neg (by omega)]
    · by_cases q1 : t = a
      · subst q1
        rw [ea, em s (by omega)]; exact hle s h1
      · rw [em t q1]
        have h3 : t < m := by rcases hm' t h2 with h | h <;> omega
        by_cases q2 : s = a
        · subst q2; rw [ea]; have := hgt t (by omega) h3; omega
        · rw [em s q2]; exact srt s t h1 h3
    · by_cases q1 : t = a
      · subst q1; exact ⟨i, by omega, ei, ea.symm⟩
      · have h3 : t < m := by rcases hm' t ht with h | h <;> omega
        obtain ⟨k, hk, e1, e2⟩ := has t h3
        exact ⟨k, by omega, by rw [er k hk]; exact e1, by rw [em t q1]; exact e2⟩
    · by_cases q1 : k = i
      · subst q1
        rw [ei, show ((a : Int) + 1 - 1).toNat = a by omega, ea]
        exact ⟨by omega, by omega, Int.le_refl _⟩
      · rw [er k (by omega)]
        obtain ⟨l1, l2, l3⟩ := low k (by omega)
        refine ⟨l1, by omega, ?_⟩
        by_cases q2 : (eR L i k - 1).toNat = a
        · have := hgt _ (Nat.le_of_eq q2.symm) (by omega)
          rw [q2, ea]; omega
        · rw [em _ q2]; exact l3
theorem long_eq (L : Nat → Int) (N : Nat) : (((enS L N).m : Nat) == moR L N) = true := by
  rw [(pat L N).most]; exact beq_self_eq_true _
end Go.Proofs.Ytffkakkijifoaaa
