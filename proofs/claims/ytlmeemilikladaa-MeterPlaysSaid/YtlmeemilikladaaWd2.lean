/- Wide numbers: what Of, Plus, Minus, Cap, Less give, for the symbolic run. No condition. -/
import Derived.Test.YtlmeemilikladaaWd1
namespace Go.Proofs.Ytlmeemilikladaa
set_option linter.unusedVariables false
set_option linter.unusedSimpArgs false
open Go.RowKit E

theorem wdiv {c k : Int} (h : 0 ≤ c ∧ c ≤ 18446744073709551615) (hk : k = c / 4294967296) : IntKind.wrap IntKind.u64 (Int.tdiv c 4294967296) = k := by
  rw [Int.tdiv_eq_ediv_of_nonneg h.1]; exact wU64 hk.symm (by omega)
theorem tmodP {c r : Int} (h : 0 ≤ c) (hr : r = c % 4294967296) : Int.tmod c 4294967296 = r := by
  rw [Int.tmod_eq_emod_of_nonneg h, hr]
theorem eq_d {x a b c d : Int} (h0 : dig a) (h1 : dig b) (h2 : dig c) (h3 : dig d) (hx : x = val4 a b c d) : d0 x = a ∧ d1 x = b ∧ d2 x = c ∧ d3 x = d := by
  subst hx
  unfold dig at *
  unfold d0 d1 d2 d3 val4
  omega
theorem of_w (a : Int) (ha : 0 ≤ a ∧ a ≤ 18446744073709551615) : PureOk Try.prog 20 [uA a] (.nv (wD a)) := by
  obtain ⟨e0, e1, e2, e3⟩ := eq_d (x := a) (a := a % 4294967296) (b := a / 4294967296) (c := 0) (d := 0) (by unfold dig; omega) (by unfold dig; omega) (by unfold dig; omega) (by unfold dig; omega) (by unfold val4; omega)
  simp only [wD, e0, e1, e2, e3]
  rw [← tmodP ha.1 rfl]
  exact of_pure a _ (wdiv ha rfl)
theorem w2 {a b k c : Int} (h : 0 ≤ a + b ∧ a + b ≤ 18446744073709551615) (hk : a + b + k = c) (hc : 0 ≤ c ∧ c ≤ 18446744073709551615) : IntKind.wrap IntKind.u64 (IntKind.wrap IntKind.u64 (a + b) + k) = c := by
  rw [wU64 (a := a + b) (b := a + b) rfl h]; exact wU64 hk hc
theorem plus_w (a0 a1 a2 a3 b0 b1 b2 b3 : Int) (h0 : dig a0) (h1 : dig a1) (h2 : dig a2) (h3 : dig a3) (g0 : dig b0) (g1 : dig b1) (g2 : dig b2) (g3 : dig b3)
    (hs : val4 a0 a1 a2 a3 + val4 b0 b1 b2 b3 ≤ 340282366920938463463374607431768211455) : PureOk Try.prog 21 [.nv (wN a0 a1 a2 a3), .nv (wN b0 b1 b2 b3)] (.nv (wD (val4 a0 a1 a2 a3 + val4 b0 b1 b2 b3))) := by
  unfold dig at *
  obtain ⟨c0, hc0⟩ : ∃ c, c = a0 + b0 := ⟨_, rfl⟩
  obtain ⟨k0, hk0⟩ : ∃ k, k = c0 / 4294967296 := ⟨_, rfl⟩
  obtain ⟨r0, hr0⟩ : ∃ k, k = c0 % 4294967296 := ⟨_, rfl⟩
  obtain ⟨c1, hc1⟩ : ∃ c, c = a1 + b1 + k0 := ⟨_, rfl⟩
  obtain ⟨k1, hk1⟩ : ∃ k, k = c1 / 4294967296 := ⟨_, rfl⟩
  obtain ⟨r1, hr1⟩ : ∃ k, k = c1 % 4294967296 := ⟨_, rfl⟩
  obtain ⟨c2, hc2⟩ : ∃ c, c = a2 + b2 + k1 := ⟨_, rfl⟩
  obtain ⟨k2, hk2⟩ : ∃ k, k = c2 / 4294967296 := ⟨_, rfl⟩
  obtain ⟨r2, hr2⟩ : ∃ k, k = c2 % 4294967296 := ⟨_, rfl⟩
  obtain ⟨c3, hc3⟩ : ∃ c, c = a3 + b3 + k2 := ⟨_, rfl⟩
  obtain ⟨k3, hk3⟩ : ∃ k, k = c3 / 4294967296 := ⟨_, rfl⟩
  obtain ⟨r3, hr3⟩ : ∃ k, k = c3 % 4294967296 := ⟨_, rfl⟩
  have q0 : c0 = r0 + 4294967296 * k0 ∧ 0 ≤ r0 ∧ r0 ≤ 4294967295 ∧ 0 ≤ k0 ∧ k0 ≤ 1 := by omega
  have q1 : c1 = r1 + 4294967296 * k1 ∧ 0 ≤ r1 ∧ r1 ≤ 4294967295 ∧ 0 ≤ k1 ∧ k1 ≤ 1 := by omega
  have q2 : c2 = r2 + 4294967296 * k2 ∧ 0 ≤ r2 ∧ r2 ≤ 4294967295 ∧ 0 ≤ k2 ∧ k2 ≤ 1 := by omega
  have q3 : c3 = r3 + 4294967296 * k3 ∧ 0 ≤ r3 ∧ r3 ≤ 4294967295 ∧ 0 ≤ k3 ∧ k3 ≤ 1 := by omega
  have hS : val4 a0 a1 a2 a3 + val4 b0 b1 b2 b3 = val4 r0 r1 r2 r3 + 340282366920938463463374607431768211456 * k3 := by unfold val4; omega
  have z3 : k3 = 0 := by unfold val4 at hS hs; omega
  rw [z3] at hS
  obtain ⟨e0, e1, e2, e3⟩ := eq_d (x := val4 a0 a1 a2 a3 + val4 b0 b1 b2 b3) (a := r0) (b := r1) (c := r2) (d := r3) (by unfold dig; omega) (by unfold dig; omega) (by unfold dig; omega) (by unfold dig; omega) (by omega)
  simp only [wD, e0, e1, e2, e3]
  exact plus_pure a0 a1 a2 a3 b0 b1 b2 b3 c0 c1 c2 c3 k0 k1 k2 k3 r0 r1 r2 r3 (w2 (by omega) (by omega) (by omega)) (wdiv (by omega) hk0) (tmodP (by omega) hr0) (w2 (by omega) (by omega) (by omega)) (wdiv (by omega) hk1) (tmodP (by omega) hr1)
    (w2 (by omega) (by omega) (by omega)) (wdiv (by omega) hk2) (tmodP (by omega) hr2) (w2 (by omega) (by omega) (by omega)) (wdiv (by omega) hk3) (tmodP (by omega) hr3)
theorem w3 {a b k c : Int} (ha : 0 ≤ a ∧ a ≤ 4294967295) (hb : 0 ≤ b ∧ b ≤ 4294967295) (hk : 0 ≤ k ∧ k ≤ 1) (hc : a + 4294967296 - b - k = c) : IntKind.wrap IntKind.u64 (IntKind.wrap IntKind.u64 (IntKind.wrap IntKind.u64 (a + 4294967296) - b) - k) = c := by
  rw [wU64 (a := a + 4294967296) (b := a + 4294967296) rfl (by omega), wU64 (a := a + 4294967296 - b) (b := a + 4294967296 - b) rfl (by omega)]; exact wU64 hc (by omega)
theorem wbor {c k : Int} (h : 0 ≤ c ∧ c < 8589934592) (hk : k = 1 - c / 4294967296) : IntKind.wrap IntKind.u64 (1 - IntKind.wrap IntKind.u64 (Int.tdiv c 4294967296)) = k := by
  rw [wdiv (k := c / 4294967296) (by omega) rfl]; exact wU64 hk.symm (by omega)
theorem minus_w (a0 a1 a2 a3 b0 b1 b2 b3 : Int) (h0 : dig a0) (h1 : dig a1) (h2 : dig a2) (h3 : dig a3) (g0 : dig b0) (g1 : dig b1) (g2 : dig b2) (g3 : dig b3)
    (hs : val4 b0 b1 b2 b3 ≤ val4 a0 a1 a2 a3) : PureOk Try.prog 30 [.nv (wN a0 a1 a2 a3), .nv (wN b0 b1 b2 b3)] (.nv (wD (val4 a0 a1 a2 a3 - val4 b0 b1 b2 b3))) := by
  unfold dig at *
  obtain ⟨c0, hc0⟩ : ∃ c, c = a0 + 4294967296 - b0 := ⟨_, rfl⟩
  obtain ⟨k0, hk0⟩ : ∃ k, k = 1 - c0 / 4294967296 := ⟨_, rfl⟩
  obtain ⟨r0, hr0⟩ : ∃ k, k = c0 % 4294967296 := ⟨_, rfl⟩
  obtain ⟨c1, hc1⟩ : ∃ c, c = a1 + 4294967296 - b1 - k0 := ⟨_, rfl⟩
  obtain ⟨k1, hk1⟩ : ∃ k, k = 1 - c1 / 4294967296 := ⟨_, rfl⟩
  obtain ⟨r1, hr1⟩ : ∃ k, k = c1 % 4294967296 := ⟨_, rfl⟩
  obtain ⟨c2, hc2⟩ : ∃ c, c = a2 + 4294967296 - b2 - k1 := ⟨_, rfl⟩
  obtain ⟨k2, hk2⟩ : ∃ k, k = 1 - c2 / 4294967296 := ⟨_, rfl⟩
  obtain ⟨r2, hr2⟩ : ∃ k, k = c2 % 4294967296 := ⟨_, rfl⟩
  obtain ⟨c3, hc3⟩ : ∃ c, c = a3 + 4294967296 - b3 - k2 := ⟨_, rfl⟩
  obtain ⟨k3, hk3⟩ : ∃ k, k = 1 - c3 / 4294967296 := ⟨_, rfl⟩
  obtain ⟨r3, hr3⟩ : ∃ k, k = c3 % 4294967296 := ⟨_, rfl⟩
  have q0 : c0 = r0 + 4294967296 * (1 - k0) ∧ 0 ≤ r0 ∧ r0 ≤ 4294967295 ∧ 0 ≤ k0 ∧ k0 ≤ 1 := by omega
  have q1 : c1 = r1 + 4294967296 * (1 - k1) ∧ 0 ≤ r1 ∧ r1 ≤ 4294967295 ∧ 0 ≤ k1 ∧ k1 ≤ 1 := by omega
  have q2 : c2 = r2 + 4294967296 * (1 - k2) ∧ 0 ≤ r2 ∧ r2 ≤ 4294967295 ∧ 0 ≤ k2 ∧ k2 ≤ 1 := by omega
  have q3 : c3 = r3 + 4294967296 * (1 - k3) ∧ 0 ≤ r3 ∧ r3 ≤ 4294967295 ∧ 0 ≤ k3 ∧ k3 ≤ 1 := by omega
  have hS : val4 a0 a1 a2 a3 - val4 b0 b1 b2 b3 = val4 r0 r1 r2 r3 - 340282366920938463463374607431768211456 * k3 := by unfold val4; omega
  have z3 : k3 = 0 := by unfold val4 at hS hs; omega
  rw [z3] at hS
  obtain ⟨e0, e1, e2, e3⟩ := eq_d (x := val4 a0 a1 a2 a3 - val4 b0 b1 b2 b3) (a := r0) (b := r1) (c := r2) (d := r3) (by unfold dig; omega) (by unfold dig; omega) (by unfold dig; omega) (by unfold dig; omega) (by omega)
  simp only [wD, e0, e1, e2, e3]
  exact minus_pure a0 a1 a2 a3 b0 b1 b2 b3 c0 c1 c2 c3 k0 k1 k2 k3 r0 r1 r2 r3 (w3 h0 g0 (by omega) (by omega)) (wbor (by omega) hk0) (tmodP (by omega) hr0) (w3 h1 g1 (by omega) (by omega)) (wbor (by omega) hk1) (tmodP (by omega) hr1)
    (w3 h2 g2 (by omega) (by omega)) (wbor (by omega) hk2) (tmodP (by omega) hr2) (w3 h3 g3 (by omega) (by omega)) (wbor (by omega) hk3) (tmodP (by omega) hr3)
def capW (x : Int) : Int := if x ≤ 18446744073709551615 then x else 18446744073709551615
theorem cap_w (a b c d : Int) (h0 : dig a) (h1 : dig b) (h2 : dig c) (h3 : dig d) : PureOk Try.prog 33 [.nv (wN a b c d)] (uA (capW (val4 a b c d))) := by
  unfold dig at *
  by_cases e2 : c = 0
  · by_cases e3 : d = 0
    · subst e2; subst e3
      have : capW (val4 a b 0 0) = b * 4294967296 + a := by unfold capW val4; rw [if_pos (by omega)]; omega
      rw [this]
      exact cap_in a b _ (by rw [wU64 (a := b * 4294967296) (b := b * 4294967296) rfl (by omega)]; exact wU64 rfl (by omega))
    · subst e2
      have : capW (val4 a b 0 d) = 18446744073709551615 := by unfold capW val4; rw [if_neg (by omega)]
      rw [this]
      exact cap_d a b d e3
  · have : capW (val4 a b c d) = 18446744073709551615 := by unfold capW val4; rw [if_neg (by omega)]
    rw [this]
    exact cap_c a b c d e2
theorem less_w (a0 a1 a2 a3 b0 b1 b2 b3 : Int) (h0 : dig a0) (h1 : dig a1) (h2 : dig a2) (h3 : dig a3) (g0 : dig b0) (g1 : dig b1) (g2 : dig b2) (g3 : dig b3) :
    PureOk Try.prog 23 [.nv (wN a0 a1 a2 a3), .nv (wN b0 b1 b2 b3)] (bA (decide (val4 a0 a1 a2 a3 < val4 b0 b1 b2 b3))) := by
  unfold dig at *
  by_cases e3 : a3 = b3
  · subst e3
    by_cases e2 : a2 = b2
    · subst e2
      by_cases e1 : a1 = b1
      · subst e1
        by_cases e0 : a0 = b0
        · subst e0
          rw [show decide (val4 a0 a1 a2 a3 < val4 a0 a1 a2 a3) = false from decide_eq_false (by omega)]
          exact less_no a0 a1 a2 a3
        · rw [show decide (val4 a0 a1 a2 a3 < val4 b0 a1 a2 a3) = decide (a0 < b0) from decide_eq_decide.2 (by unfold val4; omega)]
          exact less0 a0 a1 a2 a3 b0 e0
      · rw [show decide (val4 a0 a1 a2 a3 < val4 b0 b1 a2 a3) = decide (a1 < b1) from decide_eq_decide.2 (by unfold val4; omega)]
        exact less1 a0 a1 a2 a3 b0 b1 e1
    · rw [show decide (val4 a0 a1 a2 a3 < val4 b0 b1 b2 a3) = decide (a2 < b2) from decide_eq_decide.2 (by unfold val4; omega)]
      exact less2 a0 a1 a2 a3 b0 b1 b2 e2
  · rw [show decide (val4 a0 a1 a2 a3 < val4 b0 b1 b2 b3) = decide (a3 < b3) from decide_eq_decide.2 (by unfold val4; omega)]
    exact less3 a0 a1 a2 a3 b0 b1 b2 b3 e3
end Go.Proofs.Ytlmeemilikladaa
