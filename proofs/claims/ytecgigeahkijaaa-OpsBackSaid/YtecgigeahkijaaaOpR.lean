/- OpsBack returns true. No condition. -/
import Derived.Test.YtecgigeahkijaaaOpS
import Derived.Test.YtecgigeahkijaaaOpQ
import Derived.Test.YtecgigeahkijaaaEB
namespace Go.Proofs.Ytecgigeahkijaaa
set_option linter.unusedVariables false
set_option linter.unusedSimpArgs false
open Go.RowKit E
theorem ops_in {env : Env} {w : World} {h : Nat} {a : Option Addr} {len cap : Nat} (he : env h = some (.slice a len cap)) (r : Reads w (.slice 5 (.agg 5 (.cons 0 1 (.int .i64) (.cons 1 1 (.int .u32) (.cons 2 1 (.int .u32) (.cons 3 1 (.int .u64) (.cons 4 1 (.int .u64) .nil))))))) (Value.slice a len cap).cells.toList) :
    ∃ L : Nat → Op5, (∀ i, i < len → (L i).wf) ∧ SegOk env w h (.ro 5 len (gO L)) := by
  obtain ⟨es, b1, hs⟩ := rows_seg (h := h) (n := 5) (ps := (.cons 0 1 (.int .i64) (.cons 1 1 (.int .u32) (.cons 2 1 (.int .u32) (.cons 3 1 (.int .u64) (.cons 4 1 (.int .u64) .nil)))))) he rfl rfl r
  refine ⟨fun k => ⟨cI (es k) 0, cI (es k) 1, cI (es k) 2, cI (es k) 3, cI (es k) 4⟩, fun i hi => ?_, hs⟩
  obtain ⟨c0, c1, c2, c3, c4, _⟩ := b1 i hi
  have d1 : 0 ≤ cI (es i) 1 ∧ cI (es i) 1 ≤ 4294967295 := c1
  have d2 : 0 ≤ cI (es i) 2 ∧ cI (es i) 2 ≤ 4294967295 := c2
  have d3 : 0 ≤ cI (es i) 3 ∧ cI (es i) 3 ≤ 18446744073709551615 := c3
  have d4 : 0 ≤ cI (es i) 4 ∧ cI (es i) 4 ≤ 18446744073709551615 := c4
  unfold Op5.wf
  simp only
  omega
theorem oback_walk (a : Option Addr) (len cap : Nat) (w : World) (r : Reads w (.slice 5 (.agg 5 (.cons 0 1 (.int .i64) (.cons 1 1 (.int .u32) (.cons 2 1 (.int .u32) (.cons 3 1 (.int .u64) (.cons 4 1 (.int .u64) .nil))))))) (Value.slice a len cap).cells.toList) :
    Calls Try.prog 4 #[.slice a len cap] w fun e w' => e = .returned (.bool true) ∧ Ext w w' := by
  have he := Env.put_same (env := noEnv) 0 (.slice a len cap)
  obtain ⟨L, hw, hs⟩ := ops_in he r
  have fin : LawOk Try.prog 4 [.nv (.one (.own 0))] [.ro 5 len (gO L)] (bA true) := by
    by_cases h : 500 < len
    · exact ob_l len L h
    · have hl : len ≤ 500 := by omega
      have hloop : CodeOk Try.prog 1 (.loop (loopOf Try.f4 0)) (mkSt 63 [(0, .nv (.one (.own 0))), (13, .nv (.one (.own 0))), (14, iA len), (15, iA (0 : Nat))] [.ro 5 len (gO L)]) (.exit 0) (mkSt 63 [(0, .nv (.one (.own 0)))] [.ro 5 len (gO L)]) := by
        refine loop_ok (α := Nat) (fun i => mkSt 63 [(0, .nv (.one (.own 0))), (13, .nv (.one (.own 0))), (14, iA len), (15, iA i)] [.ro 5 len (gO L)]) (fun i => i ≤ len) (fun i => len - i) (by simp) ?_ (x := 0) (Nat.zero_le _)
        intro i hi
        by_cases e : i = len
        · subst e; exact .inr (ob_e i L)
        · exact .inl ⟨i + 1, (show i + 1 ≤ len by omega), (show len - (i + 1) < len - i by omega), ob_n len i L (by omega) hl (hw i (by omega)).2.2.2.2.1⟩
      cases hr : allR L len with
      | true =>
        have hS : opsS L len = strL (opsL L len) := by unfold opsS; rw [if_pos hr]
        have hin := ops_inB hr hw
        have hi : ints (strL (opsL L len)) = opsL L len := strL_ints hin
        obtain ⟨q1, q2, q3⟩ := read_back hi hr hw
        have hol := opsL_len L len
        exact ob_t len L hl hw (by rw [hr]; rfl) _ hS (by rw [strL_size]; omega) q1 (fun j hj => q3 j (by omega)) (by rw [hr]; rfl) hloop
      | false => exact ob_f len L hl hw (by rw [hr]; rfl) (by rw [hr]; rfl) (by rw [hr]; rfl) hloop
  refine (fin _ [.slice a len cap] w ⟨⟨he, _, _, _, rfl⟩, trivial⟩ (one_ro hs)).mono ?_
  rintro e w' ⟨u, rfl, hu, hx⟩
  exact ⟨by rw [show u = .bool true from hu], hx⟩
end Go.Proofs.Ytecgigeahkijaaa
