/- Rows of pairs: entries that rise on the high side; entries that sink. No condition. -/
import Derived.Test.YtakpokccjgoapaaTxK
namespace Go.Proofs.Ytakpokccjgoapaa
set_option linter.unusedVariables false
set_option linter.unusedSimpArgs false

theorem hiP_one {n p : Nat} (h : 2 * p < n) : (2 * p + 1 < n ∧ hiP n p = 2 * p + 1) ∨ (n = 2 * p + 1 ∧ hiP n p = 2 * p) := by
  unfold hiP
  by_cases q : 2 * p + 1 < n
  · exact .inl ⟨q, if_pos q⟩
  · exact .inr ⟨by omega, by rw [if_neg q]; omega⟩
/-- The second entry of a pair goes above. -/
theorem Up.high {n p : Nat} {K K' : Nat → Int} (h : Up n K p) (hp : 0 < p) (hn : 2 * p < n) (hlt : K (2 * ((p - 1) / 2) + 1) < K (hiP n p))
    (k1 : K' (2 * ((p - 1) / 2) + 1) = K (hiP n p)) (k2 : K' (hiP n p) = K (2 * ((p - 1) / 2) + 1)) (k3 : ∀ j, j ≠ hiP n p → j ≠ 2 * ((p - 1) / 2) + 1 → K' j = K j) : Up n K' ((p - 1) / 2) := by
  obtain ⟨e, e1, e2, e3, e4⟩ := h.e
  generalize hq : (p - 1) / 2 = q at *
  have hqp : q < p := by omega
  have hh := hiP_one hn
  generalize hH : hiP n p = H at *
  have hHn : H < n := by omega
  have hH2 : H / 2 = p := by omega
  have he : e = H := by
    by_cases w : e = H
    · exact w
    · have := (e3 H (by omega) hHn (fun x => w x.symm)).2
      rw [show pi H = q by unfold pi; omega] at this
      omega
  subst he
  have aq := h.a q (by omega)
  have kq1 : K' (2 * q) = K (2 * q) := k3 _ (by omega) (by omega)
  refine ⟨?_, 2 * q + 1, by omega, by omega, ?_, ?_⟩
  · intro k hk
    by_cases w1 : k = q
    · subst w1; rw [k1, kq1]; omega
    · by_cases w2 : k = p
      · subst w2
        have h1 : e = 2 * k + 1 := by omega
        subst h1
        have := (e3 (2 * k) (by omega) (by omega) (by omega)).2
        rw [show pi (2 * k) = q by unfold pi; omega] at this
        rw [k2, k3 (2 * k) (by omega) (by omega)]
        exact this
      · rw [k3 (2 * k) (by omega) (by omega), k3 (2 * k + 1) (by omega) (by omega)]
        exact h.a k hk
  · intro i i2 hi ine
    by_cases w1 : i = e
    · subst w1
      rw [show pi i = q by unfold pi; omega, k1, k2, kq1]
      omega
    · have o := e3 i i2 hi w1
      have hKi : K' i = K i := k3 i w1 ine
      rw [hKi]
      by_cases w2 : pi i = p
      · have g := e4 hp i i2 hi w2
        have hb : 2 * p + 1 < n := by unfold pi at w2; omega
        have h1 : e = 2 * p + 1 := by omega
        subst h1
        rw [w2] at o ⊢
        rw [k2, k3 (2 * p) (by omega) (by omega)]
        omega
      · by_cases w3 : pi i = q
        · rw [w3] at o ⊢
          rw [k1, kq1]
          omega
        · rw [k3 (2 * pi i) (by omega) (by omega), k3 (2 * pi i + 1) (by omega) (by omega)]
          exact o
  · intro hq0 i i2 hi hpi
    have oq := e3 (2 * q) (by omega) (by omega) (by omega)
    have oq1 := e3 (2 * q + 1) (by omega) (by omega) (by omega)
    rw [show pi (2 * q) = (q - 1) / 2 by unfold pi; omega] at oq
    rw [show pi (2 * q + 1) = (q - 1) / 2 by unfold pi; omega] at oq1
    rw [k3 (2 * ((q - 1) / 2)) (by omega) (by omega), k3 (2 * ((q - 1) / 2) + 1) (by omega) (by omega)]
    by_cases w1 : i = e
    · subst w1; rw [k2]; exact oq1
    · have o := e3 i i2 hi w1
      rw [hpi] at o
      rw [k3 i w1 (by
        intro w; subst w
        have : pi (2 * q + 1) = (q - 1) / 2 := by unfold pi; omega
        omega)]
      omega

/-! entries sink -/
/-- The first entry of the pair p may be too great. -/
structure Lo (n : Nat) (K : Nat → Int) (p : Nat) : Prop where
  a : ∀ k, k ≠ p → 2 * k + 1 < n → K (2 * k) ≤ K (2 * k + 1)
  b1 : ∀ i, 2 ≤ i → i < n → pi i ≠ p → K (2 * pi i) ≤ K i
  b2 : ∀ i, 2 ≤ i → i < n → K i ≤ K (2 * pi i + 1)
  c : 0 < p → ∀ i, 2 ≤ i → i < n → pi i = p → K (2 * ((p - 1) / 2)) ≤ K i
/-- The second entry of the pair p may be too small. -/
structure Hi (n : Nat) (K : Nat → Int) (p : Nat) : Prop where
  a : ∀ k, k ≠ p → 2 * k + 1 < n → K (2 * k) ≤ K (2 * k + 1)
  b1 : ∀ i, 2 ≤ i → i < n → K (2 * pi i) ≤ K i
  b2 : ∀ i, 2 ≤ i → i < n → pi i ≠ p → K i ≤ K (2 * pi i + 1)
  c : 0 < p → ∀ i, 2 ≤ i → i < n → pi i = p → K i ≤ K (2 * ((p - 1) / 2) + 1)
/-- The pair in order. -/
theorem Lo.pair {n p : Nat} {K K' : Nat → Int} (h : Lo n K p) (hn : 2 * p + 1 < n) (hlt : K (2 * p + 1) < K (2 * p))
    (k1 : K' (2 * p) = K (2 * p + 1)) (k2 : K' (2 * p + 1) = K (2 * p)) (k3 : ∀ j, j ≠ 2 * p → j ≠ 2 * p + 1 → K' j = K j) : Lo n K' p ∧ K' (2 * p) ≤ K' (2 * p + 1) := by
  refine ⟨⟨?_, ?_, ?_, ?_⟩, by omega⟩
  · intro k hk hkn
    rw [k3 _ (by omega) (by omega), k3 _ (by omega) (by omega)]
    exact h.a k hk hkn
  · intro i i2 hi hpi
    have o := h.b1 i i2 hi hpi
    rw [k3 (2 * pi i) (by omega) (by omega)]
    by_cases w : i = 2 * p
    · subst w
      have o' := h.b1 (2 * p + 1) (by omega) hn (by unfold pi; omega)
      rw [show pi (2 * p + 1) = pi (2 * p) by unfold pi; omega] at o'
      rw [k1]; exact o'
    · by_cases w' : i = 2 * p + 1
      · subst w'; rw [k2]; omega
      · rw [k3 i w w']; exact o
  · intro i i2 hi
    have o := h.b2 i i2 hi
    by_cases w : i = 2 * p
    · subst w
      have o' := h.b2 (2 * p + 1) (by omega) hn
      rw [show pi (2 * p + 1) = pi (2 * p) by unfold pi; omega] at o'
      have : pi (2 * p) < p := by unfold pi; omega
      rw [k1, k3 (2 * pi (2 * p) + 1) (by omega) (by omega)]; exact o'
    · by_cases w' : i = 2 * p + 1
      · subst w'
        have o' := h.b2 (2 * p) (by omega) (by omega)
        rw [show pi (2 * p) = pi (2 * p + 1) by unfold pi; omega] at o'
        have : pi (2 * p + 1) < p := by unfold pi; omega
        rw [k2, k3 (2 * pi (2 * p + 1) + 1) (by omega) (by omega)]; exact o'
      · rw [k3 i w w']
        by_cases z : pi i = p
        · rw [z] at o ⊢; rw [k2]; omega
        · rw [k3 (2 * pi i + 1) (by omega) (by omega)]; exact o
  · intro hp i i2 hi hpi
    rw [k3 (2 * ((p - 1) / 2)) (by omega) (by omega), k3 i (by unfold pi at hpi; omega) (by unfold pi at hpi; omega)]
    exact h.c hp i i2 hi hpi
theorem Hi.pair {n p : Nat} {K K' : Nat → Int} (h : Hi n K p) (hn : 2 * p + 1 < n) (hlt : K (2 * p + 1) < K (2 * p))
    (k1 : K' (2 * p) = K (2 * p + 1)) (k2 : K' (2 * p + 1) = K (2 * p)) (k3 : ∀ j, j ≠ 2 * p → j ≠ 2 * p + 1 → K' j = K j) : Hi n K' p ∧ K' (2 * p) ≤ K' (2 * p + 1) := by
  refine ⟨⟨?_, ?_, ?_, ?_⟩, by omega⟩
  · intro k hk hkn
    rw [k3 _ (by omega) (by omega), k3 _ (by omega) (by omega)]
    exact h.a k hk hkn
  · intro i i2 hi
    have o := h.b1 i i2 hi
    by_cases w : i = 2 * p
    · subst w
      have o' := h.b1 (2 * p + 1) (by omega) hn
      rw [show pi (2 * p + 1) = pi (2 * p) by unfold pi; omega] at o'
      have : pi (2 * p) < p := by unfold pi; omega
      rw [k1, k3 (2 * pi (2 * p)) (by omega) (by omega)]; exact o'
    · by_cases w' : i = 2 * p + 1
      · subst w'
        have o' := h.b1 (2 * p) (by omega) (by omega)
        rw [show pi (2 * p) = pi (2 * p + 1) by unfold pi; omega] at o'
        have : pi (2 * p + 1) < p := by unfold pi; omega
        rw [k2, k3 (2 * pi (2 * p + 1)) (by omega) (by omega)]; exact o'
      · rw [k3 i w w']
        by_cases z : pi i = p
        · rw [z] at o ⊢; rw [k1]; omega
        · rw [k3 (2 * pi i) (by omega) (by omega)]; exact o
  · intro i i2 hi hpi
    have o := h.b2 i i2 hi hpi
    rw [k3 (2 * pi i + 1) (by omega) (by omega)]
    by_cases w : i = 2 * p
    · subst w; rw [k1]; omega
    · by_cases w' : i = 2 * p + 1
      · subst w'
        have o' := h.b2 (2 * p) (by omega) (by omega) (by unfold pi; omega)
        rw [show pi (2 * p) = pi (2 * p + 1) by unfold pi; omega] at o'
        rw [k2]; exact o'
      · rw [k3 i w w']; exact o
  · intro hp i i2 hi hpi
    rw [k3 (2 * ((p - 1) / 2) + 1) (by omega) (by omega), k3 i (by unfold pi at hpi; omega) (by unfold pi at hpi; omega)]
    exact h.c hp i i2 hi hpi
theorem Lo.stop {n p : Nat} {K : Nat → Int} (h : Lo n K p) (ha : 2 * p + 1 < n → K (2 * p) ≤ K (2 * p + 1)) (hb : ∀ i, 2 ≤ i → i < n → pi i = p → K (2 * p) ≤ K i) : HP n K := by
  refine ⟨fun k hk => ?_, fun i i2 hi => ⟨?_, h.b2 i i2 hi⟩⟩
  · by_cases w : k = p
    · subst w; exact ha hk
    · exact h.a k w hk
  · by_cases w : pi i = p
    · rw [w]; exact hb i i2 hi w
    · exact h.b1 i i2 hi w
theorem Hi.stop {n p : Nat} {K : Nat → Int} (h : Hi n K p) (ha : 2 * p + 1 < n → K (2 * p) ≤ K (2 * p + 1)) (hb : ∀ i, 2 ≤ i → i < n → pi i = p → K i ≤ K (2 * p + 1)) : HP n K := by
  refine ⟨fun k hk => ?_, fun i i2 hi => ⟨h.b1 i i2 hi, ?_⟩⟩
  · by_cases w : k = p
    · subst w; exact ha hk
    · exact h.a k w hk
  · by_cases w : pi i = p
    · rw [w]; exact hb i i2 hi w
    · exact h.b2 i i2 hi w
/-- The least entry below comes up. -/
theorem Lo.down {n p u : Nat} {K K' : Nat → Int} (h : Lo n K p) (hu : u = 2 * p + 1 ∨ u = 2 * p + 2) (hun : 2 * u < n) (ha : K (2 * p) ≤ K (2 * p + 1)) (hmin : ∀ i, 2 ≤ i → i < n → pi i = p → K (2 * u) ≤ K i) (hlt : K (2 * u) < K (2 * p))
    (k1 : K' (2 * p) = K (2 * u)) (k2 : K' (2 * u) = K (2 * p)) (k3 : ∀ j, j ≠ 2 * p → j ≠ 2 * u → K' j = K j) : Lo n K' u := by
  have hpu : pi (2 * u) = p := by unfold pi; omega
  have bu := h.b2 (2 * u) (by omega) hun
  rw [hpu] at bu
  have kp1 : K' (2 * p + 1) = K (2 * p + 1) := k3 _ (by omega) (by omega)
  refine ⟨?_, ?_, ?_, ?_⟩
  · intro k hk hkn
    by_cases w : k = p
    · subst w; rw [k1, kp1]; exact bu
    · rw [k3 _ (by omega) (by omega), k3 _ (by omega) (by omega)]
      exact h.a k w hkn
  · intro i i2 hi hpi
    by_cases w : pi i = p
    · rw [w, k1]
      by_cases z : i = 2 * u
      · subst z; rw [k2]; omega
      · rw [k3 i (by unfold pi at w; omega) z]; exact hmin i i2 hi w
    · rw [k3 (2 * pi i) (by omega) (by omega)]
      have o := h.b1 i i2 hi w
      by_cases z : i = 2 * p
      · subst z
        have hp0 : 0 < p := by omega
        have := h.c hp0 (2 * u) (by omega) hun hpu
        rw [k1, show pi (2 * p) = (p - 1) / 2 by unfold pi; omega]; exact this
      · rw [k3 i z (by rintro rfl; exact w hpu)]; exact o
  · intro i i2 hi
    have o := h.b2 i i2 hi
    have e : K' (2 * pi i + 1) = K (2 * pi i + 1) := k3 _ (by omega) (by omega)
    rw [e]
    by_cases z : i = 2 * u
    · subst z; rw [hpu, k2]; exact ha
    · by_cases z' : i = 2 * p
      · subst z'; rw [k1]; omega
      · rw [k3 i z' z]; exact o
  · intro hu0 i i2 hi hpi
    rw [show (u - 1) / 2 = p by omega, k1, k3 i (by unfold pi at hpi; omega) (by unfold pi at hpi; omega)]
    have := h.b1 i i2 hi (by omega)
    rw [hpi] at this; exact this
/-- The greatest entry below comes up. -/
theorem Hi.down {n p u t : Nat} {K K' : Nat → Int} (h : Hi n K p) (hu : u = 2 * p + 1 ∨ u = 2 * p + 2) (hun : 2 * u < n) (ht : t = hiP n u) (ha : K (2 * p) ≤ K (2 * p + 1)) (hmax : ∀ i, 2 ≤ i → i < n → pi i = p → K i ≤ K t) (hlt : K (2 * p + 1) < K t)
    (k1 : K' (2 * p + 1) = K t) (k2 : K' t = K (2 * p + 1)) (k3 : ∀ j, j ≠ 2 * p + 1 → j ≠ t → K' j = K j) : Hi n K' u := by
  have hh := hiP_one hun
  rw [← ht] at hh
  have htn : t < n := by omega
  have hpu : pi t = p := by unfold pi; omega
  have bu := h.b1 t (by omega) htn
  rw [hpu] at bu
  have kp1 : K' (2 * p) = K (2 * p) := k3 _ (by omega) (by omega)
  refine ⟨?_, ?_, ?_, ?_⟩
  · intro k hk hkn
    by_cases w : k = p
    · subst w; rw [k1, kp1]; exact bu
    · rw [k3 _ (by omega) (by omega), k3 _ (by omega) (by omega)]
      exact h.a k w hkn
  · intro i i2 hi
    have o := h.b1 i i2 hi
    by_cases w : pi i = u
    · have hb : 2 * u + 1 < n := by unfold pi at w; omega
      have e : K' (2 * pi i) = K (2 * pi i) := k3 _ (by omega) (by omega)
      rw [e, k3 i (by unfold pi at w; omega) (by unfold pi at w; omega)]; exact o
    · have e : K' (2 * pi i) = K (2 * pi i) := k3 _ (by omega) (by omega)
      rw [e]
      by_cases z : i = t
      · subst z; rw [hpu, k2]; exact ha
      · by_cases z' : i = 2 * p + 1
        · subst z'; rw [k1]; omega
        · rw [k3 i z' z]; exact o
  · intro i i2 hi hpi
    by_cases w : pi i = p
    · rw [w, k1]
      by_cases z : i = t
      · subst z; rw [k2]; omega
      · rw [k3 i (by unfold pi at w; omega) z]; exact hmax i i2 hi w
    · rw [k3 (2 * pi i + 1) (by omega) (by omega)]
      have o := h.b2 i i2 hi w
      by_cases z : i = 2 * p + 1
      · subst z
        have hp0 : 0 < p := by omega
        have := h.c hp0 t (by omega) htn hpu
        rw [k1, show pi (2 * p + 1) = (p - 1) / 2 by unfold pi; omega]; exact this
      · rw [k3 i z (by rintro rfl; exact w hpu)]; exact o
  · intro hu0 i i2 hi hpi
    have hb : 2 * u + 1 < n := by unfold pi at hpi; omega
    have ht' : t = 2 * u + 1 := by omega
    rw [show (u - 1) / 2 = p by omega, k1, k3 i (by unfold pi at hpi; omega) (by unfold pi at hpi; omega)]
    have := h.b2 i i2 hi (by omega)
    rw [hpi, ← ht'] at this; exact this
end Go.Proofs.Ytakpokccjgoapaa
