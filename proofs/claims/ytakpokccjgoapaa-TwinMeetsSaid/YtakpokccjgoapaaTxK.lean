/- Rows of pairs: what it is that they are in order, and that entries that rise or sink bring it about. No condition. -/
import Derived.Test.YtakpokccjgoapaaTwU
namespace Go.Proofs.Ytakpokccjgoapaa
set_option linter.unusedVariables false
set_option linter.unusedSimpArgs false

/-- The pair above an entry's one. -/
def pi (i : Nat) : Nat := (i / 2 - 1) / 2
/-- Each pair is in order. -/
def HA (n : Nat) (K : Nat → Int) : Prop := ∀ p, 2 * p + 1 < n → K (2 * p) ≤ K (2 * p + 1)
structure HP (n : Nat) (K : Nat → Int) : Prop where
  a : HA n K
  b : ∀ i, 2 ≤ i → i < n → K (2 * pi i) ≤ K i ∧ K i ≤ K (2 * pi i + 1)
theorem HP.min {n : Nat} {K : Nat → Int} (h : HP n K) : ∀ i, i < n → K 0 ≤ K i := by
  intro i
  induction i using Nat.strongRecOn with
  | ind i ih =>
    intro hi
    rcases (by omega : i = 0 ∨ i = 1 ∨ 2 ≤ i) with rfl | rfl | h2
    · exact Int.le_refl _
    · exact h.a 0 hi
    · have hp : 2 * pi i < i := by unfold pi; omega
      have := ih (2 * pi i) hp (by omega)
      have := (h.b i h2 hi).1
      omega
theorem HP.max {n : Nat} {K : Nat → Int} (h : HP n K) (hn : 2 ≤ n) : ∀ i, i < n → K i ≤ K 1 := by
  intro i
  induction i using Nat.strongRecOn with
  | ind i ih =>
    intro hi
    rcases (by omega : i = 0 ∨ i = 1 ∨ 2 ≤ i) with rfl | rfl | h2
    · exact h.a 0 (by omega)
    · exact Int.le_refl _
    · have hp : 2 * pi i + 1 < i := by unfold pi; omega
      have := ih (2 * pi i + 1) hp (by omega)
      have := (h.b i h2 hi).2
      omega
theorem HP.less {n m : Nat} {K : Nat → Int} (h : HP n K) (hm : m ≤ n) : HP m K :=
  ⟨fun p hp => h.a p (by omega), fun i h2 hi => h.b i h2 (by omega)⟩

/-! an entry rises -/
/-- One entry, of the pair p, may be out of its place. -/
structure Up (n : Nat) (K : Nat → Int) (p : Nat) : Prop where
  a : HA n K
  e : ∃ e, e / 2 = p ∧ e < n ∧ (∀ i, 2 ≤ i → i < n → i ≠ e → K (2 * pi i) ≤ K i ∧ K i ≤ K (2 * pi i + 1)) ∧
    (0 < p → ∀ i, 2 ≤ i → i < n → pi i = p → K (2 * ((p - 1) / 2)) ≤ K i ∧ K i ≤ K (2 * ((p - 1) / 2) + 1))
theorem Up.top {n : Nat} {K : Nat → Int} (h : Up n K 0) : HP n K := by
  obtain ⟨e, e1, e2, e3, _⟩ := h.e
  exact ⟨h.a, fun i h2 hi => e3 i h2 hi (by omega)⟩
theorem Up.stop {n p : Nat} {K : Nat → Int} (h : Up n K p) (hp : 0 < p) (h1 : K (2 * ((p - 1) / 2)) ≤ K (2 * p)) (h2 : K (hiP n p) ≤ K (2 * ((p - 1) / 2) + 1)) : HP n K := by
  obtain ⟨e, e1, e2, e3, _⟩ := h.e
  refine ⟨h.a, fun i i2 hi => ?_⟩
  by_cases q : i = e
  · subst q
    have hpi : pi i = (p - 1) / 2 := by unfold pi; omega
    rw [hpi]
    unfold hiP at h2
    by_cases h3 : 2 * p + 1 < n
    · rw [if_pos h3] at h2
      have := h.a p h3
      rcases (by omega : i = 2 * p ∨ i = 2 * p + 1) with rfl | rfl <;> omega
    · rw [if_neg h3] at h2
      obtain rfl : i = 2 * p := by omega
      rw [show n - 1 = 2 * p by omega] at h2
      omega
  · exact e3 i i2 hi q
/-- The first entry of a pair goes above. -/
theorem Up.low {n p : Nat} {K K' : Nat → Int} (h : Up n K p) (hp : 0 < p) (hn : 2 * p < n) (hlt : K (2 * p) < K (2 * ((p - 1) / 2)))
    (k1 : K' (2 * ((p - 1) / 2)) = K (2 * p)) (k2 : K' (2 * p) = K (2 * ((p - 1) / 2))) (k3 : ∀ j, j ≠ 2 * p → j ≠ 2 * ((p - 1) / 2) → K' j = K j) : Up n K' ((p - 1) / 2) := by
  obtain ⟨e, e1, e2, e3, e4⟩ := h.e
  generalize hq : (p - 1) / 2 = q at *
  have hqp : q < p := by omega
  have he : e = 2 * p := by
    by_cases w : e = 2 * p
    · exact w
    · have := (e3 (2 * p) (by omega) hn (fun x => w x.symm)).1
      rw [show pi (2 * p) = q by unfold pi; omega] at this
      omega
  subst he
  have aq := h.a q (by omega)
  have kq1 : K' (2 * q + 1) = K (2 * q + 1) := k3 _ (by omega) (by omega)
  refine ⟨?_, 2 * q, by omega, by omega, ?_, ?_⟩
  · intro k hk
    by_cases w1 : k = q
    · subst w1; rw [k1, kq1]; omega
    · by_cases w2 : k = p
      · subst w2
        have := (e3 (2 * k + 1) (by omega) hk (by omega)).1
        rw [show pi (2 * k + 1) = q by unfold pi; omega] at this
        rw [k2, k3 (2 * k + 1) (by omega) (by omega)]
        exact this
      · rw [k3 (2 * k) (by omega) (by omega), k3 (2 * k + 1) (by omega) (by omega)]
        exact h.a k hk
  · intro i i2 hi ine
    by_cases w1 : i = 2 * p
    · subst w1
      rw [show pi (2 * p) = q by unfold pi; omega, k1, k2, kq1]
      omega
    · have o := e3 i i2 hi w1
      have hKi : K' i = K i := k3 i w1 ine
      rw [hKi]
      by_cases w2 : pi i = p
      · have g := e4 hp i i2 hi w2
        rw [w2] at o ⊢
        rw [k2, k3 (2 * p + 1) (by omega) (by omega)]
        omega
      · by_cases w3 : pi i = q
        · rw [w3] at o ⊢
          rw [k1, kq1]
          omega
        · rw [k3 (2 * pi i) (by omega) (by omega), k3 (2 * pi i + 1) (by omega) (by omega)]
          exact o
  · intro hq0 i i2 hi hpi
    have oq := e3 (2 * q) (by omega) (by omega) (by omega)
    have oq1 := e3 (2 * q + 1) (by omega) (by omega) (by omega)
    rw [show pi (2 * q) = (q - 1) / 2 by unfold pi; omega] at oq
    rw [show pi (2 * q + 1) = (q - 1) / 2 by unfold pi; omega] at oq1
    rw [k3 (2 * ((q - 1) / 2)) (by omega) (by omega), k3 (2 * ((q - 1) / 2) + 1) (by omega) (by omega)]
    by_cases w1 : i = 2 * p
    · subst w1; rw [k2]; exact oq
    · have o := e3 i i2 hi w1
      rw [hpi] at o
      rw [k3 i w1 (by
        intro w; subst w
        have : pi (2 * q) = (q - 1) / 2 := by unfold pi; omega
        omega)]
      omega
end Go.Proofs.Ytakpokccjgoapaa
