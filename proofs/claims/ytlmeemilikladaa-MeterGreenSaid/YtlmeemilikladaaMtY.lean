import Derived.Test.YtlmeemilikladaaMtX
namespace Go.Proofs.Ytlmeemilikladaa
set_option linter.unusedVariables false
set_option linter.unusedSimpArgs false
open Go.RowKit

theorem reads_five {w : World} {cs : Array Value} (h : Reads w (.agg 5 (.cons 0 1 (.int .u64) (.cons 1 1 (.int .u64) (.cons 2 1 (.int .u64) (.cons 3 1 (.int .u64) (.cons 4 1 (.int .u64) .nil)))))) cs.toList) :
    ∃ r n f a b : Int, cs = #[.int .u64 r, .int .u64 n, .int .u64 f, .int .u64 a, .int .u64 b] ∧ (0 ≤ r ∧ r ≤ 18446744073709551615) ∧ (0 ≤ n ∧ n ≤ 18446744073709551615) ∧ (0 ≤ f ∧ f ≤ 18446744073709551615) ∧ (0 ≤ a ∧ a ≤ 18446744073709551615) ∧ (0 ≤ b ∧ b ≤ 18446744073709551615) := by
  obtain ⟨hl, ⟨r, hr, wr⟩, ⟨n, hn, wn⟩, ⟨f, hf, wf⟩, ⟨a, ha, wa⟩, ⟨b, hb, wb⟩, _⟩ := h
  obtain ⟨l⟩ := cs
  obtain ⟨x, y, z, u, v, rfl⟩ := list5 hl
  simp at hr hn hf ha hb
  subst hr; subst hn; subst hf; subst ha; subst hb
  exact ⟨r, n, f, a, b, rfl, wf_u64 wr, wf_u64 wn, wf_u64 wf, wf_u64 wa, wf_u64 wb⟩
theorem reads_six {w : World} {cs : Array Value} (h : Reads w (.agg 6 (.cons 0 1 (.int .u64) (.cons 1 1 (.int .u64) (.cons 2 1 (.int .u64) (.cons 3 1 (.int .u64) (.cons 4 1 (.int .u64) (.cons 5 1 (.int .u64) .nil))))))) cs.toList) :
    ∃ s q n f a b : Int, cs = #[.int .u64 s, .int .u64 q, .int .u64 n, .int .u64 f, .int .u64 a, .int .u64 b] ∧ (0 ≤ s ∧ s ≤ 18446744073709551615) ∧ (0 ≤ q ∧ q ≤ 18446744073709551615) ∧ (0 ≤ n ∧ n ≤ 18446744073709551615) ∧ (0 ≤ f ∧ f ≤ 18446744073709551615) ∧ (0 ≤ a ∧ a ≤ 18446744073709551615) ∧ (0 ≤ b ∧ b ≤ 18446744073709551615) := by
  obtain ⟨hl, ⟨s, hs, ws⟩, ⟨q, hq, wq⟩, ⟨n, hn, wn⟩, ⟨f, hf, wf⟩, ⟨a, ha, wa⟩, ⟨b, hb, wb⟩, _⟩ := h
  obtain ⟨l⟩ := cs
  obtain ⟨x, y, z, u, v, t, rfl⟩ := list6 hl
  simp at hs hq hn hf ha hb
  subst hs; subst hq; subst hn; subst hf; subst ha; subst hb
  exact ⟨s, q, n, f, a, b, rfl, wf_u64 ws, wf_u64 wq, wf_u64 wn, wf_u64 wf, wf_u64 wa, wf_u64 wb⟩

/-- What ColourOne answers, as one form for all meters. -/
theorem colour1_form (r n f a b x came : Int) (hr : 0 ≤ r ∧ r ≤ 18446744073709551615) (hn : 0 ≤ n ∧ n ≤ 18446744073709551615) (hf : 0 ≤ f ∧ f ≤ 18446744073709551615) (ha : 0 ≤ a ∧ a ≤ 18446744073709551615) (hb : 0 ≤ b ∧ b ≤ 18446744073709551615) (hx : 0 ≤ x ∧ x ≤ 18446744073709551615) :
    ∃ R N F A B p : Int, (∀ w, Calls Try.prog 7 #[.agg #[.int .u64 r, .int .u64 n, .int .u64 f, .int .u64 a, .int .u64 b], .int .u64 x, .int .i64 came] w fun e w' =>
      e = .returned (.tuple #[.agg #[.int .u64 R, .int .u64 N, .int .u64 F, .int .u64 A, .int .u64 B], .int .i64 p]) ∧ Ext w w') ∧
      (if came < 1 ∨ 3 < came then (1 : Int) else came) ≤ p ∧ p ≤ 3 ∧ (ckOne r n f a b = 0 → p = 3 → R = r ∧ N = n ∧ F = f ∧ A = a ∧ B = b) := by
  by_cases h : ckOne r n f a b = 0
  · obtain ⟨h1, h2, h3⟩ := worse_law1 a b x came
    exact ⟨r, n, f, _, _, _, fun w => colour1_any r n f a b x came w hr hn hf ha hb hx h, h1, h2, fun _ h4 => ⟨rfl, rfl, rfl, h3 h4⟩⟩
  · exact ⟨0, 0, 0, 0, 0, 3, fun w => colour1_bad r n f a b x came w hr hn hf ha hb hx h, by split <;> omega, by omega, fun h4 => absurd h4 h⟩
theorem colour2_form (s q n f a b x came : Int) (hs : 0 ≤ s ∧ s ≤ 18446744073709551615) (hq : 0 ≤ q ∧ q ≤ 18446744073709551615) (hn : 0 ≤ n ∧ n ≤ 18446744073709551615) (hf : 0 ≤ f ∧ f ≤ 18446744073709551615) (ha : 0 ≤ a ∧ a ≤ 18446744073709551615) (hb : 0 ≤ b ∧ b ≤ 18446744073709551615) (hx : 0 ≤ x ∧ x ≤ 18446744073709551615) :
    ∃ S Q N F A B p : Int, (∀ w, Calls Try.prog 8 #[.agg #[.int .u64 s, .int .u64 q, .int .u64 n, .int .u64 f, .int .u64 a, .int .u64 b], .int .u64 x, .int .i64 came] w fun e w' =>
      e = .returned (.tuple #[.agg #[.int .u64 S, .int .u64 Q, .int .u64 N, .int .u64 F, .int .u64 A, .int .u64 B], .int .i64 p]) ∧ Ext w w') ∧
      (if came < 1 ∨ 3 < came then (1 : Int) else came) ≤ p ∧ p ≤ 3 ∧ (ckTwo s q n f a b = 0 → p = 3 → S = s ∧ Q = q ∧ N = n ∧ F = f ∧ A = a ∧ B = b) := by
  by_cases h : ckTwo s q n f a b = 0
  · obtain ⟨h1, h2, h3⟩ := worse_law2 a b x came
    exact ⟨s, q, n, f, _, _, _, fun w => colour2_any s q n f a b x came w hs hq hn hf ha hb hx h, h1, h2, fun _ h4 => ⟨rfl, rfl, rfl, rfl, h3 h4⟩⟩
  · exact ⟨0, 0, 0, 0, 0, 0, 3, fun w => colour2_bad s q n f a b x came w hs hq hn hf ha hb hx h, by split <;> omega, by omega, fun h4 => absurd h4 h⟩

theorem worse_walk (c1 c2 c3 : Array Value) (w : World)
    (h1 : Reads w (.agg 5 (.cons 0 1 (.int .u64) (.cons 1 1 (.int .u64) (.cons 2 1 (.int .u64) (.cons 3 1 (.int .u64) (.cons 4 1 (.int .u64) .nil)))))) c1.toList)
    (h2 : Reads w (.agg 6 (.cons 0 1 (.int .u64) (.cons 1 1 (.int .u64) (.cons 2 1 (.int .u64) (.cons 3 1 (.int .u64) (.cons 4 1 (.int .u64) (.cons 5 1 (.int .u64) .nil))))))) c2.toList)
    (h3 : Reads w (.agg 3 (.cons 0 1 (.int .u64) (.cons 1 1 (.int .u64) (.cons 2 1 (.int .i64) .nil)))) c3.toList) :
    Calls Try.prog 3 #[.agg c1, .agg c2, .agg c3] w fun e w' => e = .returned (.bool true) ∧ Ext w w' := by
  obtain ⟨r, n, f, a, b, rfl, hr, hn, hf, ha, hb⟩ := reads_five h1
  obtain ⟨s, q, n2, f2, a2, b2, rfl, hs, hq, hn2, hf2, ha2, hb2⟩ := reads_six h2
  obtain ⟨hl, ⟨tk, htk, _⟩, ⟨x, hx, wx⟩, ⟨came, hcm, wc⟩, _⟩ := h3
  obtain ⟨l⟩ := c3
  obtain ⟨u, v, z, rfl⟩ := list3 hl
  simp at htk hx hcm
  subst htk; subst hx; subst hcm
  have hx := wf_u64 wx
  obtain ⟨R, N, F, A, B, p, H1, l1, u1, e1⟩ := colour1_form r n f a b x came hr hn hf ha hb hx
  obtain ⟨S, Q, N2, F2, A2, B2, pq, H2, l2, u2, e2⟩ := colour2_form s q n2 f2 a2 b2 x came hs hq hn2 hf2 ha2 hb2 hx
  exact worse_any r n f a b s q n2 f2 a2 b2 tk x came p pq A B A2 B2 _ _ R N F S Q N2 F2 w hr.1 hn.1 hf.1 ha.1 hb.1 hs.1 hq.1 hn2.1 hf2.1 ha2.1 hb2.1 H1 H2 rfl rfl l1 l2 u1 u2 e1 e2
end Go.Proofs.Ytlmeemilikladaa
