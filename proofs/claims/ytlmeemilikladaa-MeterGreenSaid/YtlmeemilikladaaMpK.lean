/- MeterPlays returns true. No condition. -/
import Derived.Test.YtlmeemilikladaaMpJ
import Derived.Test.YtlmeemilikladaaMtY
import Derived.Test.YtlmeemilikladaaEB
namespace Go.Proofs.Ytlmeemilikladaa
set_option linter.unusedVariables false
set_option linter.unusedSimpArgs false
open Go.RowKit E

abbrev shMAct : Sh := .agg 3 (.cons 0 1 (.int .u64) (.cons 1 1 (.int .u64) (.cons 2 1 (.int .i64) .nil)))
theorem mact_cells {w : World} {e : List Value} (h : Reads w shMAct e) : ∃ (t x c : Int), e = [.int .u64 t, .int .u64 x, .int .i64 c] ∧ (0 ≤ t ∧ t ≤ 18446744073709551615) ∧ (0 ≤ x ∧ x ≤ 18446744073709551615) := by
  obtain ⟨hl, h0, h1, h2, _⟩ := h
  obtain ⟨a, b, c, rfl⟩ := list3 hl
  obtain ⟨t, e0, k0⟩ := h0
  obtain ⟨x, e1, k1⟩ := h1
  obtain ⟨q, e2, k2⟩ := h2
  simp at e0 e1 e2
  subst e0; subst e1; subst e2
  exact ⟨t, x, q, rfl, wf_u64 k0, wf_u64 k1⟩
theorem macts_seg {w : World} {env : Env} {ao : Option Addr} {len cap : Nat} (he : env 0 = some (.slice ao len cap)) (h : Reads w (.slice 3 shMAct) [.slice ao len cap]) :
    ∃ (t x c : Nat → Int), (∀ k, k < len → 0 ≤ t k ∧ t k ≤ 18446744073709551615) ∧ (∀ k, k < len → 0 ≤ x k ∧ x k ≤ 18446744073709551615) ∧ SegOk env w 0 (.ro 3 len (mActs t x c)) := by
  obtain ⟨ao', len', cap', es, e0, h1, h2, h3, h4, h5⟩ := h
  simp only [List.cons.injEq, Value.slice.injEq, and_true] at e0
  obtain ⟨rfl, rfl, rfl⟩ := e0
  have key : ∀ k, k < len → ∃ (t x c : Int), es.getD k [] = [.int .u64 t, .int .u64 x, .int .i64 c] ∧ (0 ≤ t ∧ t ≤ 18446744073709551615) ∧ (0 ≤ x ∧ x ≤ 18446744073709551615) := fun k hk =>
    mact_cells (h5 k _ (getD_lt [] (by omega))).2.1
  refine ⟨fun k => cellI es k 0, fun k => cellI es k 1, fun k => cellI es k 2, fun k hk => ?_, fun k hk => ?_, ro_seg he h1 h2 h3 h4 (fun i e q => ⟨(h5 i e q).1, (h5 i e q).2.2⟩) (fun i e q => ?_)⟩
  · obtain ⟨t, x, b, q, k1, k2⟩ := key k hk
    simp only [cellI, q]; exact k1
  · obtain ⟨t, x, b, q, k1, k2⟩ := key k hk
    simp only [cellI, q]; exact k2
  · obtain ⟨t, x, b, rfl, k1, k2⟩ := mact_cells (h5 i e q).2.1
    have := getD_some (d := []) q
    exact ⟨⟨by simp only [cellI, this]; rfl, by simp only [cellI, this]; rfl, by simp only [cellI, this]; rfl, trivial⟩, by simp [Value.oneCell']⟩

theorem mplays_walk (c1 c2 : Array Value) (a2 : Option Addr) (len cap : Nat) (w : World)
    (h1 : Reads w (.agg 5 (.cons 0 1 (.int .u64) (.cons 1 1 (.int .u64) (.cons 2 1 (.int .u64) (.cons 3 1 (.int .u64) (.cons 4 1 (.int .u64) .nil)))))) (Value.agg c1).cells.toList)
    (h2 : Reads w (.agg 6 (.cons 0 1 (.int .u64) (.cons 1 1 (.int .u64) (.cons 2 1 (.int .u64) (.cons 3 1 (.int .u64) (.cons 4 1 (.int .u64) (.cons 5 1 (.int .u64) .nil))))))) (Value.agg c2).cells.toList)
    (r2 : Reads w (.slice 3 shMAct) (Value.slice a2 len cap).cells.toList) :
    Calls Try.prog 5 #[.agg c1, .agg c2, .slice a2 len cap] w fun e w' => e = .returned (.bool true) ∧ Ext w w' := by
  obtain ⟨r, n, f, a, b, rfl, wr, wn, wf, wa, wb⟩ := reads_five (cs := c1) h1
  obtain ⟨s, q, m, g, d, e, rfl, ws, wq, wm, wg, wd, we⟩ := reads_six (cs := c2) h2
  have he := Env.put_same (env := noEnv) 0 (.slice a2 len cap)
  obtain ⟨t, x, c, bt, bx, hs⟩ := macts_seg he r2
  have fin : LawOk Try.prog 5 [.nv (oneN r n f a b), .nv (twoN s q m g d e), .nv (.one (.own 0))] [.ro 3 len (mActs t x c)] (bA true) := by
    by_cases hlen : len ≤ 200
    · have lp := mplays_loop len t x c hlen bt bx ⟨r, n, f, a, b⟩ ⟨s, q, m, g, d, e⟩ ⟨wr, wn, wf, wa, wb⟩ ⟨ws, wq, wm, wg, wd, we⟩
      by_cases k1 : ckOne r n f n f = 0 <;> by_cases k2 : ckTwo s q m g m g = 0
      · exact mplays_tt r n f a b s q m g d e wr wn wf wa wb ws wq wm wg wd we len t x c hlen k1 k2 lp
      · exact mplays_tf r n f a b s q m g d e wr wn wf wa wb ws wq wm wg wd we len t x c hlen k1 k2 lp
      · exact mplays_ft r n f a b s q m g d e wr wn wf wa wb ws wq wm wg wd we len t x c hlen k1 k2 lp
      · exact mplays_ff r n f a b s q m g d e wr wn wf wa wb ws wq wm wg wd we len t x c hlen k1 k2 lp
    · exact mplays_long r n f a b s q m g d e len _ (by omega)
  refine (fin _ [.agg #[.int .u64 r, .int .u64 n, .int .u64 f, .int .u64 a, .int .u64 b], .agg #[.int .u64 s, .int .u64 q, .int .u64 m, .int .u64 g, .int .u64 d, .int .u64 e], .slice a2 len cap] w
    ⟨⟨_, rfl, rfl, rfl, rfl, rfl, rfl, trivial⟩, ⟨_, rfl, rfl, rfl, rfl, rfl, rfl, rfl, trivial⟩, ⟨he, _, _, _, rfl⟩, trivial⟩ (one_ro hs)).mono ?_
  rintro e w' ⟨u, rfl, hu, hx⟩
  exact ⟨by rw [show u = .bool true from hu], hx⟩
end Go.Proofs.Ytlmeemilikladaa
