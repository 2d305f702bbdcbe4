/- CreditBounds returns true. No condition. -/
import Derived.Test.YtpldacdgifekmaaCbJ
import Derived.Test.YtpldacdgifekmaaCrK
import Derived.Test.YtpldacdgifekmaaEB
namespace Go.Proofs.Ytpldacdgifekmaa
set_option linter.unusedVariables false
set_option linter.unusedSimpArgs false
open Go.RowKit E

abbrev shU3 : Sh := .agg 3 (.cons 0 1 (.int .u16) (.cons 1 1 (.int .u16) (.cons 2 1 (.int .u16) .nil)))
theorem u3_args {w : World} {a0 : Array Value} (r0 : Reads w shU3 (Value.agg a0).cells.toList) : ∃ a b c : Int, a0 = #[.int .u16 a, .int .u16 b, .int .u16 c] ∧ (0 ≤ a ∧ a ≤ 65535) ∧ (0 ≤ b ∧ b ≤ 65535) ∧ (0 ≤ c ∧ c ≤ 65535) := by
  obtain ⟨hl, ⟨a, e0, k0⟩, ⟨b, e1, k1⟩, ⟨c, e2, k2⟩, _⟩ := r0
  refine ⟨a, b, c, ?_, wf_u16 k0, wf_u16 k1, wf_u16 k2⟩
  apply Array.ext'
  have hl' : a0.toList.length = 3 := hl
  obtain ⟨x, y, z, q⟩ := list3 hl'
  simp only [Value.cells] at e0 e1 e2
  rw [q] at e0 e1 e2 ⊢
  simp at e0 e1 e2
  rw [e0, e1, e2]
theorem wone {a : Int} (h : 0 ≤ a ∧ a ≤ 65535) : IntKind.wrap IntKind.i64 (IntKind.wrap IntKind.i64 a + 1) = a + 1 := by
  rw [w64 (a := a) (b := a) rfl (by omega)]; exact w64 rfl (by omega)

theorem bounds_walk (a0 : Array Value) (m : Int) (a2 : Option Addr) (len cap : Nat) (w : World) (r0 : Reads w shU3 (Value.agg a0).cells.toList) (wm : (Lit.int .u16 m).wf = true) (r2 : Reads w (.slice 3 shAct) (Value.slice a2 len cap).cells.toList) :
    Calls Try.prog 4 #[.agg a0, .int .u16 m, .slice a2 len cap] w fun e w' => e = .returned (.bool true) ∧ Ext w w' := by
  obtain ⟨a, b, c, rfl, ha, hb, hc⟩ := u3_args r0
  have hm := wf_u16 wm
  have he := Env.put_same (env := noEnv) 0 (.slice a2 len cap)
  obtain ⟨t, x, wt, bt, bx, hs⟩ := acts_seg he r2
  have hok : okC (a + 1) (b + 1) (c + 1) 0 := by unfold okC V; omega
  have k0 : okB (a + 1) (b + 1) (c + 1) 0 = true := decide_eq_true hok
  have k1 : chkC (a + 1) (b + 1) (c + 1) 0 = 0 := (chk_yes _ _ _ _ hok).symm
  have fin : LawOk Try.prog 4 [.nv (.agg [.val (.int .u16 a), .val (.int .u16 b), .val (.int .u16 c)]), .nv (.one (.val (.int .u16 m))), .nv (.one (.own 0))] [.ro 3 len (actsG t x wt)] (bA true) := by
    by_cases hlen : len ≤ 200
    · exact bounds_law a b c m ha hb hc hm len t x wt hlen bt bx k0 k1 (wone ha) (wone hb) (wone hc)
    · exact bounds_long a b c m len _ (by omega) k0 k1 (wone ha) (wone hb) (wone hc)
  refine (fin _ [.agg #[.int .u16 a, .int .u16 b, .int .u16 c], .int .u16 m, .slice a2 len cap] w ⟨⟨_, rfl, rfl, rfl, rfl, trivial⟩, rfl, ⟨he, _, _, _, rfl⟩, trivial⟩ (one_ro hs)).mono ?_
  rintro e w' ⟨u, rfl, hu, hx⟩
  exact ⟨by rw [show u = .bool true from hu], hx⟩
end Go.Proofs.Ytpldacdgifekmaa
