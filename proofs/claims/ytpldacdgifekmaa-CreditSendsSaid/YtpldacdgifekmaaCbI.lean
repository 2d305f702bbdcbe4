/- The loop of CreditBounds. No condition. -/
import Derived.Test.YtpldacdgifekmaaCbH
namespace Go.Proofs.Ytpldacdgifekmaa
set_option linter.unusedVariables false
set_option linter.unusedSimpArgs false
open Go.RowKit E

theorem wneg {s m : Int} (hs : 1 ≤ s ∧ s ≤ 1048576) (hm : 0 ≤ m ∧ m ≤ 65535) : IntKind.wrap IntKind.i64 (IntKind.wrap IntKind.i64 (-s) * IntKind.wrap IntKind.i64 m) = -(s * m) := by
  have hb := prod_bd hs hm
  rw [w64 (a := -s) (b := -s) rfl (by omega), w64 (a := m) (b := m) rfl (by omega)]
  exact w64 (by rw [Int.neg_mul]) (by omega)

theorem bounds_loop (i s h m : Int) (len : Nat) (t x : Nat → Int) (wt : Nat → Bool) (hl : len ≤ 200) (bt : ∀ k, k < len → 0 ≤ t k ∧ t k ≤ 18446744073709551615) (bx : ∀ k, k < len → 0 ≤ x k ∧ x k ≤ 18446744073709551615)
    (hm : 0 ≤ m ∧ m ≤ 65535) (k1 : okB i s h 0 = true) : CodeOk Try.prog 1 (.loop (loopOf Try.f4 0)) (boundsS m len t x wt 0 i s h 0) (.exit 0) boundsE := by
  obtain ⟨h1, h2, h3, _⟩ := okB_iff.1 k1
  have hpb := prod_bd h2 hm
  refine loop_ok (α := Nat × Int) (fun p => boundsS m len t x wt p.1 i s h p.2) (fun p => p.1 ≤ len ∧ okB i s h p.2 = true ∧ -(s * m) ≤ p.2) (fun p => len - p.1) (by simp) ?_ (x := (0, 0)) ⟨Nat.zero_le _, k1, by show -(s * m) ≤ 0; omega⟩
  rintro ⟨k, v⟩ ⟨hk, hok, hv⟩
  simp only at hk hok hv
  by_cases e : k = len
  · subst e
    exact .inr (bounds_end i s h v m k t x wt)
  · have hlt : k < len := by omega
    have g1 : k + 1 ≤ len := by omega
    have g2 : len - (k + 1) < len - k := by omega
    obtain ⟨k2, hv2⟩ := tick_bd (wt := wt k) hok (bt k hlt).1
    have hw := wait_bd k2
    have hv2' : -(s * m) ≤ tickH i h v (t k) (wt k) := by omega
    have hn : 0 ≤ Int.tmod (x k) (m + 1) ∧ Int.tmod (x k) (m + 1) ≤ m := by
      have := Int.tmod_nonneg (m + 1) (bx k hlt).1
      have := Int.tmod_lt_of_pos (x k) (show 0 < m + 1 by omega)
      omega
    obtain ⟨q1, q2, q3⟩ := sent_bd2 k2 hm hn hv2'
    have wm : IntKind.wrap IntKind.u64 (IntKind.wrap IntKind.u64 m + 1) = m + 1 := by
      rw [wU64 (a := m) (b := m) rfl (by omega)]; exact wU64 rfl (by omega)
    by_cases hq : 0 < waitV i s h (tickH i h v (t k) (wt k))
    · have m3 : mayB i s h (tickH i h v (t k) (wt k)) = false := by
        rw [mayB_ok, k2, Bool.true_and, decide_eq_false_iff_not]; have := hw.2.2.1 hq; omega
      have := bounds_some i s h v m len k t x wt hlt hl (bt k hlt) (bx k hlt) _ _ _ _ hok rfl k2 rfl ⟨hq, hw.2.1⟩ (wait_may k2) (wait_not k2 hq) m3 hm wm (wU64 rfl (by omega)) rfl hn rfl (wneg h2 hm) q2 q3
      exact .inl ⟨(k + 1, _), ⟨g1, q1, q2⟩, g2, this⟩
    · have e0 : waitV i s h (tickH i h v (t k) (wt k)) = 0 := by omega
      have m3 : mayB i s h (tickH i h v (t k) (wt k)) = true := by
        rw [mayB_ok, k2, Bool.true_and, decide_eq_true_eq]; have := mt hw.2.2.2 hq; omega
      have m1 := wait_may k2
      rw [e0] at m1
      have := bounds_none i s h v m len k t x wt hlt hl (bt k hlt) (bx k hlt) _ _ _ hok rfl k2 e0 m1 m3 hm wm rfl hn rfl (wneg h2 hm) q2 q3
      exact .inl ⟨(k + 1, _), ⟨g1, q1, q2⟩, g2, this⟩
end Go.Proofs.Ytpldacdgifekmaa
