/- CreditPlays returns true. No condition. -/
import Derived.Test.YtpldacdgifekmaaCrJ
import Derived.Test.YtpldacdgifekmaaEB
namespace Go.Proofs.Ytpldacdgifekmaa
set_option linter.unusedVariables false
set_option linter.unusedSimpArgs false
open Go.RowKit E

abbrev shCl : Sh := .agg 4 (.cons 0 1 (.int .i64) (.cons 1 1 (.int .i64) (.cons 2 1 (.int .i64) (.cons 3 1 (.int .i64) .nil))))
abbrev shAct : Sh := .agg 3 (.cons 0 1 (.int .u64) (.cons 1 1 (.int .u64) (.cons 2 1 .bool .nil)))
theorem act_cells {w : World} {e : List Value} (h : Reads w shAct e) : ∃ (t x : Int) (b : Bool), e = [.int .u64 t, .int .u64 x, .bool b] ∧ (0 ≤ t ∧ t ≤ 18446744073709551615) ∧ (0 ≤ x ∧ x ≤ 18446744073709551615) := by
  obtain ⟨hl, h0, h1, h2, _⟩ := h
  obtain ⟨a, b, c, rfl⟩ := list3 hl
  obtain ⟨t, e0, k0⟩ := h0
  obtain ⟨x, e1, k1⟩ := h1
  obtain ⟨q, e2⟩ := h2
  simp at e0 e1 e2
  subst e0; subst e1; subst e2
  exact ⟨t, x, q, rfl, wf_u64 k0, wf_u64 k1⟩
theorem acts_seg {w : World} {env : Env} {ao : Option Addr} {len cap : Nat} (he : env 0 = some (.slice ao len cap)) (h : Reads w (.slice 3 shAct) [.slice ao len cap]) :
    ∃ (t x : Nat → Int) (wt : Nat → Bool), (∀ k, k < len → 0 ≤ t k ∧ t k ≤ 18446744073709551615) ∧ (∀ k, k < len → 0 ≤ x k ∧ x k ≤ 18446744073709551615) ∧ SegOk env w 0 (.ro 3 len (actsG t x wt)) := by
  obtain ⟨ao', len', cap', es, e0, h1, h2, h3, h4, h5⟩ := h
  simp only [List.cons.injEq, Value.slice.injEq, and_true] at e0
  obtain ⟨rfl, rfl, rfl⟩ := e0
  have key : ∀ k, k < len → ∃ (t x : Int) (b : Bool), es.getD k [] = [.int .u64 t, .int .u64 x, .bool b] ∧ (0 ≤ t ∧ t ≤ 18446744073709551615) ∧ (0 ≤ x ∧ x ≤ 18446744073709551615) := fun k hk =>
    act_cells (h5 k _ (getD_lt [] (by omega))).2.1
  refine ⟨fun k => cellI es k 0, fun k => cellI es k 1, fun k => cellB es k 2, fun k hk => ?_, fun k hk => ?_, ro_seg he h1 h2 h3 h4 (fun i e q => ⟨(h5 i e q).1, (h5 i e q).2.2⟩) (fun i e q => ?_)⟩
  · obtain ⟨t, x, b, q, k1, k2⟩ := key k hk
    simp only [cellI, q]; exact k1
  · obtain ⟨t, x, b, q, k1, k2⟩ := key k hk
    simp only [cellI, q]; exact k2
  · obtain ⟨t, x, b, rfl, k1, k2⟩ := act_cells (h5 i e q).2.1
    have := getD_some (d := []) q
    exact ⟨⟨by simp only [cellI, this]; rfl, by simp only [cellI, this]; rfl, by simp only [cellB, this]; rfl, trivial⟩, by simp [Value.oneCell']⟩

theorem plays_walk (a0 : Array Value) (a1 : Option Addr) (len cap : Nat) (w : World) (r0 : Reads w shCl (Value.agg a0).cells.toList) (r1 : Reads w (.slice 3 shAct) (Value.slice a1 len cap).cells.toList) :
    Calls Try.prog 3 #[.agg a0, .slice a1 len cap] w fun e w' => e = .returned (.bool true) ∧ Ext w w' := by
  obtain ⟨hl, ⟨i, e0, _⟩, ⟨s, e1, _⟩, ⟨h, e2, _⟩, ⟨v, e3, _⟩, _⟩ := r0
  have ha : a0 = #[.int .i64 i, .int .i64 s, .int .i64 h, .int .i64 v] := by
    apply Array.ext'
    have hl' : a0.toList.length = 4 := hl
    obtain ⟨a, b, c, d, q⟩ := list4 hl'
    simp only [Value.cells] at e0 e1 e2 e3
    rw [q] at e0 e1 e2 e3 ⊢
    simp at e0 e1 e2 e3
    rw [e0, e1, e2, e3]
  subst ha
  have he := Env.put_same (env := noEnv) 0 (.slice a1 len cap)
  obtain ⟨t, x, wt, bt, bx, hs⟩ := acts_seg he r1
  have fin : LawOk Try.prog 3 [.nv (clN i s h v), .nv (.one (.own 0))] [.ro 3 len (actsG t x wt)] (bA true) := by
    by_cases hlen : len ≤ 200
    · cases k0 : okB i s h 0 <;> cases k1 : okB i s h v
      · exact plays_ff i s h v len t x wt hlen bt bx k0 k1
      · exact plays_ft i s h v len t x wt hlen bt bx k0 k1
      · exact plays_tf i s h v len t x wt hlen bt bx k0 k1
      · exact plays_tt i s h v len t x wt hlen bt bx k0 k1
    · exact plays_long i s h v len _ (by omega)
  refine (fin _ [.agg #[.int .i64 i, .int .i64 s, .int .i64 h, .int .i64 v], .slice a1 len cap] w ⟨⟨_, rfl, rfl, rfl, rfl, rfl, trivial⟩, ⟨he, _, _, _, rfl⟩, trivial⟩ (one_ro hs)).mono ?_
  rintro e w' ⟨u, rfl, hu, hx⟩
  exact ⟨by rw [show u = .bool true from hu], hx⟩
end Go.Proofs.Ytpldacdgifekmaa
