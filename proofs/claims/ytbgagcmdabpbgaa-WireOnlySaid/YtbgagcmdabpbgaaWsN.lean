/- WirePuts, WireTakes return true. No condition. -/
import Derived.Test.YtbgagcmdabpbgaaWsM
import Derived.Test.YtbgagcmdabpbgaaEB
namespace Go.Proofs.Ytbgagcmdabpbgaa
set_option linter.unusedVariables false
set_option linter.unusedSimpArgs false
open Go.RowKit E
/-- A slice of fields that came in. -/
theorem fields_in {env : Env} {w : World} {h : Nat} {a : Option Addr} {len cap : Nat} (he : env h = some (.slice a len cap)) (r : Reads w (.slice 3 (.agg 3 (.cons 0 1 (.int .i64) (.cons 1 1 (.int .u64) (.cons 2 1 .str .nil))))) (Value.slice a len cap).cells.toList) :
    ∃ L : Nat → Fl, (∀ i, i < len → (L i).wf ∧ (L i).s.size ≤ maxLen) ∧ SegOk env w h (.ro 3 len (gF L)) := by
  obtain ⟨es, b1, hs⟩ := rows_seg (h := h) (n := 3) (ps := (.cons 0 1 (.int .i64) (.cons 1 1 (.int .u64) (.cons 2 1 .str .nil)))) he rfl rfl r
  refine ⟨fun k => ⟨cI (es k) 0, cI (es k) 1, cS (es k) 2⟩, fun i hi => ?_, hs⟩
  obtain ⟨c0, c1, c2, _⟩ := b1 i hi
  exact ⟨⟨c1.1, by have : cI (es i) 1 ≤ 18446744073709551615 := c1.2; show cI (es i) 1 < 18446744073709551616; omega⟩, c2⟩
theorem ro_len {env : Env} {w : World} {h wd len : Nat} {g : Nat → List At} (k : SegOk env w h (.ro wd len g)) : len ≤ 9223372036854775807 := by
  obtain ⟨ao, cap, cs, h1, h2, h3, _⟩ := k
  unfold maxLen at h3; omega
theorem wputs_walk (a : Option Addr) (len cap : Nat) (w : World) (r : Reads w (.slice 3 (.agg 3 (.cons 0 1 (.int .i64) (.cons 1 1 (.int .u64) (.cons 2 1 .str .nil))))) (Value.slice a len cap).cells.toList) :
    Calls Try.prog 3 #[.slice a len cap] w fun e w' => e = .returned (.bool true) ∧ Ext w w' := by
  have he := Env.put_same (env := noEnv) 0 (.slice a len cap)
  obtain ⟨L, hw, hs⟩ := fields_in he r
  have fin : LawOk Try.prog 3 [.nv (.one (.own 0))] [.ro 3 len (gF L)] (bA true) := by
    cases hf : fewB L len with
    | false => exact wp_f len L (ro_len hs) hf
    | true =>
      have hl : len ≤ 200 := by
        unfold fewB at hf
        simp only [Bool.and_eq_true, decide_eq_true_eq] at hf
        exact hf.2
      refine wp_m len L _ _ hl hf (fun i hi => (hw i hi).1) rfl rfl ?_
      refine loop_ok (α := Nat) (fun i => mkSt 57 [(0, .nv (.one (.own 0))), (3, sA (putStr L len)), (4, iA (badZ L len)), (5, sA (putStr L len)), (6, iA (badZ L len)), (25, iA len), (26, iA i)] [.ro 3 len (gF L)]) (fun i => i ≤ len) (fun i => len - i) (by simp) ?_ (x := 0) (Nat.zero_le _)
      intro i hi
      by_cases e : i = len
      · subst e; exact .inr (wp_e i L _ _)
      · have hwi := (hw i (by omega)).1
        exact .inl ⟨i + 1, (show i + 1 ≤ len by omega), (show len - (i + 1) < len - i by omega), wp_n len i L _ _ (by omega) hl hwi.1 hwi.2 (size_one _)⟩
  refine (fin _ [.slice a len cap] w ⟨⟨he, _, _, _, rfl⟩, trivial⟩ (one_ro hs)).mono ?_
  rintro e w' ⟨u, rfl, hu, hx⟩
  exact ⟨by rw [show u = .bool true from hu], hx⟩
theorem ints_in {env : Env} {w : World} {h : Nat} {a : Option Addr} {len cap : Nat} (he : env h = some (.slice a len cap)) (r : Reads w (.slice 1 (.int .i64)) (Value.slice a len cap).cells.toList) :
    ∃ K : Nat → Int, SegOk env w h (.ro 1 len (gK K)) := by
  obtain ⟨es, b1, hs⟩ := vals_seg (h := h) (s := .int .i64) he rfl r
  exact ⟨fun k => cI (es k) 0, hs⟩
theorem wtakes_walk (s : ByteArray) (a : Option Addr) (len cap : Nat) (w : World) (hz : s.size ≤ maxLen) (r : Reads w (.slice 1 (.int .i64)) (Value.slice a len cap).cells.toList) :
    Calls Try.prog 4 #[.string s, .slice a len cap] w fun e w' => e = .returned (.bool true) ∧ Ext w w' := by
  have he := Env.put_same (env := noEnv) 0 (.slice a len cap)
  obtain ⟨K, hs⟩ := ints_in he r
  have fin : LawOk Try.prog 4 [sA s, .nv (.one (.own 0))] [.ro 1 len (gK K)] (bA true) := by
    by_cases hl : 80000 < s.size
    · exact wt_l s len K hl
    · by_cases hk : 200 < len
      · exact wt_k s len K (by omega) hk
      · exact wt_m s len K (by omega) (by omega) (by split <;> omega)
  refine (fin _ [.string s, .slice a len cap] w ⟨rfl, ⟨he, _, _, _, rfl⟩, trivial⟩ (one_ro hs)).mono ?_
  rintro e w' ⟨u, rfl, hu, hx⟩
  exact ⟨by rw [show u = .bool true from hu], hx⟩
end Go.Proofs.Ytbgagcmdabpbgaa
