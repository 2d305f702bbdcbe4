/- The loops of CreditSends. No condition. -/
import Derived.Test.YtpldacdgifekmaaCsH
namespace Go.Proofs.Ytpldacdgifekmaa
set_option linter.unusedVariables false
set_option linter.unusedSimpArgs false
open Go.RowKit E

section
variable (i s h m : Int) (len : Nat) (t x : Nat → Int) (wt : Nat → Bool)
theorem sends_loop (hl : len ≤ 80) (bt : ∀ k, k < len → 0 ≤ t k ∧ t k ≤ 18446744073709551615) (bx : ∀ k, k < len → 0 ≤ x k ∧ x k ≤ 18446744073709551615) (hm : 0 ≤ m ∧ m ≤ 65535) (k1 : okB i s h 0 = true) :
    CodeOk Try.prog 1 (.loop (loopOf Try.f5 0)) (sendsS m len t x wt 0 i s h 0 (co i s h m t x wt) (er i t)) (.exit 0) (sendsM m len i s h (vv i s h m t x wt len) (co i s h m t x wt) (er i t)) := by
  have bt' : ∀ k, k < len → 0 ≤ t k := fun k hk => (bt k hk).1
  have bx' : ∀ k, k < len → 0 ≤ x k := fun k hk => (bx k hk).1
  obtain ⟨h1, h2, h3, _⟩ := okB_iff.1 k1
  refine loop_ok (α := Nat) (fun k => sendsS m len t x wt k i s h (vv i s h m t x wt k) (co i s h m t x wt) (er i t)) (fun k => k ≤ len) (fun k => len - k) (by simp) ?_ (x := 0) (Nat.zero_le _)
  intro k hk
  by_cases e : k = len
  · subst e
    exact .inr (sends_end i s h _ m k t x wt _ _)
  · have hlt : k < len := by omega
    refine .inl ⟨k + 1, (by omega : k + 1 ≤ len), (by omega : len - (k + 1) < len - k), ?_⟩
    have hv := vv_bd (wt := wt) bt' bx' hm k1 k hk
    have ha := aa_bd (wt := wt) bt' bx' hm k1 hlt
    have hn := stepN_bd (bx' k hlt) hm.1
    have hq := stepT_bd (bt' k hlt)
    have hc := co_bd (t := t) (wt := wt) bx' hm k1 hlt
    have he := er_bd (i := i) bt' k1 hlt
    have wm : IntKind.wrap IntKind.u64 (IntKind.wrap IntKind.u64 m + 1) = m + 1 := by
      rw [wU64 (a := m) (b := m) rfl (by omega)]; exact wU64 rfl (by omega)
    have ee : IntKind.wrap IntKind.i64 (i * IntKind.wrap IntKind.i64 (stepT t k)) = er i t k := by
      rw [w64 (a := stepT t k) (b := stepT t k) rfl (by omega)]; exact w64 rfl (by omega)
    cases eb : sentB i s h (aa i s h m t x wt k) (stepN m x k)
    · exact sends_no i s h _ m len k t x wt _ _ hlt hl (bt k hlt) (bx k hlt) _ _ _ _ hv.1 rfl hq rfl ha.1 hm wm rfl hn rfl eb (by unfold co; rw [eb]; rfl) ee
    · refine sends_yes i s h _ m len k t x wt _ _ hlt hl (bt k hlt) (bx k hlt) _ _ _ _ hv.1 rfl hq rfl ha.1 hm wm rfl hn rfl eb ?_ ee
      have e1 : co i s h m t x wt k = s * stepN m x k := by unfold co; rw [eb]; rfl
      rw [e1] at hc ⊢
      show IntKind.wrap IntKind.i64 (s * IntKind.wrap IntKind.i64 (stepN m x k)) = _
      rw [w64 (a := stepN m x k) (b := stepN m x k) rfl (by omega)]
      exact w64 rfl (by omega)

theorem inner_loop (v : Int) (hl : len ≤ 80) (bt : ∀ k, k < len → 0 ≤ t k) (bx : ∀ k, k < len → 0 ≤ x k) (hm : 0 ≤ m ∧ m ≤ 65535) (k1 : okB i s h 0 = true) (j : Nat) (hj : j < len) :
    CodeOk Try.prog 1 (.loop (loopOf Try.f5 2)) (sendsI m len i s h v (co i s h m t x wt) (er i t) j j 0 (h + s * m)) (.exit 4) (sendsO m len i s h v (co i s h m t x wt) (er i t) j) := by
  obtain ⟨h1, h2, h3, _⟩ := okB_iff.1 k1
  have hp := prod_bd h2 hm
  refine loop_ok (α := Nat × Int × Int) (fun p => sendsI m len i s h v (co i s h m t x wt) (er i t) j p.1 p.2.1 p.2.2)
    (fun p => j ≤ p.1 ∧ p.1 ≤ len ∧ 0 ≤ p.2.1 ∧ p.2.1 ≤ p.1 * 68718428160 ∧ 0 ≤ p.2.2 ∧ p.2.2 ≤ 68719476736 + p.1 * 1125899906842624 ∧ (p.1 = j → p.2.1 = 0 ∧ p.2.2 = h + s * m) ∧ (j < p.1 → p.2.1 + vv i s h m t x wt p.1 ≤ p.2.2 - s * m))
    (fun p => len - p.1) (by simp) ?_ (x := (j, 0, h + s * m)) ⟨Nat.le_refl _, by simp only; omega, Int.le_refl 0, by simp only; omega, by simp only; omega, by simp only; omega, fun _ => ⟨rfl, rfl⟩, fun q => by simp only at q; omega⟩
  rintro ⟨k, sum, may⟩ ⟨i1, i2, i3, i4, i5, i6, i7, i8⟩
  simp only at i1 i2 i3 i4 i5 i6 i7 i8
  by_cases e : k = len
  · subst e
    exact .inr (inner_end i s h v m k j _ _ sum may)
  · have hlt : k < len := by omega
    have ha := aa_bd (wt := wt) bt bx hm k1 hlt
    have hc := co_bd (t := t) (wt := wt) bx hm k1 hlt
    have he := er_bd (i := i) bt k1 hlt
    have hv := vv_bd (wt := wt) bt bx hm k1 (k + 1) (by omega)
    have hs := vv_step (wt := wt) bx hm hlt ha.1
    have hb := (okB_iff.1 ha.1).2.2.2
    by_cases ej : k = j
    · subst ej
      obtain ⟨rfl, rfl⟩ := i7 rfl
      refine .inl ⟨(k + 1, co i s h m t x wt k, h + s * m), ⟨by simp only; omega, by simp only; omega, hc.1, by simp only; omega, by simp only; omega, by simp only; omega, fun q => by simp only at q; omega, fun _ => by simp only; omega⟩, by simp only; omega, ?_⟩
      exact inner_first i s h v m len k _ _ (h + s * m) hlt hl hc (by omega) (w64 rfl (by omega))
    · have hjk : j < k := by omega
      have := i8 hjk
      refine .inl ⟨(k + 1, sum + co i s h m t x wt k, may + er i t k), ⟨by simp only; omega, by simp only; omega, by simp only; omega, by simp only; omega, by simp only; omega, by simp only; omega, fun q => by simp only at q; omega, fun _ => by simp only; omega⟩, by simp only; omega, ?_⟩
      exact inner_next i s h v m len j k _ _ sum may (sum + co i s h m t x wt k) (may + er i t k) hjk hlt hl (w64 rfl (by omega)) (w64 rfl (by omega)) (by omega)

end
end Go.Proofs.Ytpldacdgifekmaa
