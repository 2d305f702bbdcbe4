/- MeterGreen returns true. No condition. -/
import Derived.Test.YtlmeemilikladaaMvK
import Derived.Test.YtlmeemilikladaaMgD
import Derived.Test.YtlmeemilikladaaMpK
namespace Go.Proofs.Ytlmeemilikladaa
set_option linter.unusedVariables false
set_option linter.unusedSimpArgs false
open Go.RowKit E

abbrev shArr2w : Sh := .agg 2 (.cons 0 1 (.int .u32) (.cons 1 1 (.int .u32) .nil))
theorem reads_two32 {w : World} {cs : Array Value} (h : Reads w shArr2w cs.toList) : ∃ x y : Int, cs = #[.int .u32 x, .int .u32 y] ∧ (0 ≤ x ∧ x ≤ 4294967295) ∧ (0 ≤ y ∧ y ≤ 4294967295) := by
  obtain ⟨hl, ⟨a, e0, k0⟩, ⟨b, e1, k1⟩, _⟩ := h
  refine ⟨a, b, ?_, wf_u32 k0, wf_u32 k1⟩
  apply Array.ext'
  obtain ⟨x, y, q⟩ := list2 hl
  rw [q] at e0 e1 ⊢
  simp at e0 e1
  rw [e0, e1]

theorem green_walk (c1 c2 : Array Value) (a2 : Option Addr) (len cap : Nat) (w : World) (h1 : Reads w shArr2w (Value.agg c1).cells.toList) (h2 : Reads w shArr2 (Value.agg c2).cells.toList)
    (r2 : Reads w (.slice 3 shMAct) (Value.slice a2 len cap).cells.toList) :
    Calls Try.prog 6 #[.agg c1, .agg c2, .slice a2 len cap] w fun e w' => e = .returned (.bool true) ∧ Ext w w' := by
  obtain ⟨r0, r1, rfl, hr0, hr1⟩ := reads_two32 (cs := c1) h1
  obtain ⟨near, far, rfl, hn, hf⟩ := reads_two (cs := c2) h2
  have he := Env.put_same (env := noEnv) 0 (.slice a2 len cap)
  obtain ⟨t, x, c, bt, bx, hs⟩ := macts_seg he r2
  have fin : LawOk Try.prog 6 [.nv (.agg [.val (.int .u32 r0), .val (.int .u32 r1)]), .nv (.agg [.val (.int .u64 near), .val (.int .u64 far)]), .nv (.one (.own 0))] [.ro 3 len (mActs t x c)] (bA true) := by
    have es : IntKind.wrap IntKind.u64 (IntKind.wrap IntKind.u64 r0 + 1) = r0 + 1 := by rw [wU64 (a := r0) (b := r0) rfl (by omega)]; exact wU64 rfl (by omega)
    have ef : IntKind.wrap IntKind.u64 (r0 + 1 + IntKind.wrap IntKind.u64 r1) = r0 + 1 + r1 := by rw [wU64 (a := r1) (b := r1) rfl (by omega)]; exact wU64 rfl (by omega)
    by_cases hl : len ≤ 60
    · by_cases k1 : ckOne (r0 + 1) near far near far = 0
      · by_cases k2 : ckTwo (r0 + 1) (r0 + 1 + r1) near far near far = 0
        · exact green_law r0 r1 near far _ _ hr0 hr1 hn hf es ef (by omega) (by omega) k1 k2 len t x c hl _ _ _
            (green_loop hl (by omega) (by omega) hn hf bt bx k1 k2)
            (green_outer near (r0 + 1) len _ _ _ hl hn (fun j hj => green_inner (q := r0 + 1 + r1) hl (by omega) (by omega) hn hf bt bx j hj))
        · exact green_no2 r0 r1 near far _ _ hr0 hr1 hn hf es ef (by omega) (by omega) k1 k2 len t x c hl
      · exact green_no1 r0 r1 near far _ _ hr0 hr1 hn hf es ef (by omega) (by omega) k1 len t x c hl
    · exact green_long r0 r1 near far _ _ hr0 hr1 hn hf es ef (by omega) (by omega) len t x c (by omega)
  refine (fin _ [.agg #[.int .u32 r0, .int .u32 r1], .agg #[.int .u64 near, .int .u64 far], .slice a2 len cap] w
    ⟨⟨_, rfl, rfl, rfl, trivial⟩, ⟨_, rfl, rfl, rfl, trivial⟩, ⟨he, _, _, _, rfl⟩, trivial⟩ (one_ro hs)).mono ?_
  rintro e w' ⟨u, rfl, hu, hx⟩
  exact ⟨by rw [show u = .bool true from hu], hx⟩
end Go.Proofs.Ytlmeemilikladaa
