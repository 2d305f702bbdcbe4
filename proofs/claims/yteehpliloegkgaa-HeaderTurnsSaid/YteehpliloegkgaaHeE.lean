/- HeaderPuts: the walk. No condition. -/
import Derived.Test.YteehpliloegkgaaHeD
import Derived.Test.YteehpliloegkgaaEB
namespace Go.Proofs.Yteehpliloegkgaa
set_option linter.unusedVariables false
set_option linter.unusedSimpArgs false
open Go.RowKit E
theorem hputs_law (d id ttl src dst sp dp : Int) (b : ByteArray) (hw : Hd.wf ⟨d, id, ttl, src, dst, sp, dp⟩) : LawOk Try.prog 3 [.nv (.agg [.val (.int .u8 d), .val (.int .u16 id), .val (.int .u8 ttl), .val (.int .u32 src), .val (.int .u32 dst), .val (.int .u16 sp), .val (.int .u16 dp)]), sA b] [] (bA true) := by
  by_cases h : 70000 < b.size
  · exact hp_l d id ttl src dst sp dp b h
  by_cases e : hPutE ⟨d, id, ttl, src, dst, sp, dp⟩ b = 0
  · obtain ⟨t1, t2, t3⟩ := take_put hw e
    refine hp_k d id ttl src dst sp dp b (by omega) hw e (by rw [hPutS_size e]; omega) ?_ ?_ ?_ ?_ ?_ ?_ ?_ ?_ ?_ <;> first | (rw [t2]; exact beq_self_eq_true _) | (rw [t3]; exact toList_same _) | (rw [t1]; rfl)
  · exact hp_e d id ttl src dst sp dp b (by omega) hw e
abbrev shHd : Sh := .agg 7 (.cons 0 1 (.int .u8) (.cons 1 1 (.int .u16) (.cons 2 1 (.int .u8) (.cons 3 1 (.int .u32) (.cons 4 1 (.int .u32) (.cons 5 1 (.int .u16) (.cons 6 1 (.int .u16) .nil)))))))
theorem list7 {α : Type} {l : List α} (h : l.length = 7) : ∃ a b c d e f g, l = [a, b, c, d, e, f, g] := by
  match l, h with
  | [a, b, c, d, e, f, g], _ => exact ⟨a, b, c, d, e, f, g, rfl⟩
theorem hd_args {w : World} {a0 : Array Value} (r0 : Reads w shHd (Value.agg a0).cells.toList) : ∃ d id ttl src dst sp dp : Int, a0 = #[.int .u8 d, .int .u16 id, .int .u8 ttl, .int .u32 src, .int .u32 dst, .int .u16 sp, .int .u16 dp] ∧ Hd.wf ⟨d, id, ttl, src, dst, sp, dp⟩ := by
  obtain ⟨hl, ⟨a, e0, k0⟩, ⟨b, e1, k1⟩, ⟨c, e2, k2⟩, ⟨d, e3, k3⟩, ⟨e, e4, k4⟩, ⟨f, e5, k5⟩, ⟨g, e6, k6⟩, _⟩ := r0
  refine ⟨a, b, c, d, e, f, g, ?_, wf_u8 k0, wf_u16 k1, wf_u8 k2, wf_u32 k3, wf_u32 k4, wf_u16 k5, wf_u16 k6⟩
  apply Array.ext'
  have hl' : a0.toList.length = 7 := hl
  obtain ⟨x, y, z, u, v, s, t, q⟩ := list7 hl'
  simp only [Value.cells] at e0 e1 e2 e3 e4 e5 e6
  rw [q] at e0 e1 e2 e3 e4 e5 e6 ⊢
  simp at e0 e1 e2 e3 e4 e5 e6
  rw [e0, e1, e2, e3, e4, e5, e6]
theorem hputs_walk (a0 : Array Value) (b : ByteArray) (w : World) (r0 : Reads w shHd (Value.agg a0).cells.toList) (hz : b.size ≤ maxLen) :
    Calls Try.prog 3 #[.agg a0, .string b] w fun e w' => e = .returned (.bool true) ∧ Ext w w' := by
  obtain ⟨d, id, ttl, src, dst, sp, dp, rfl, hw⟩ := hd_args r0
  refine (hputs_law d id ttl src dst sp dp b hw _ [.agg #[.int .u8 d, .int .u16 id, .int .u8 ttl, .int .u32 src, .int .u32 dst, .int .u16 sp, .int .u16 dp], .string b] w ⟨⟨_, rfl, rfl, rfl, rfl, rfl, rfl, rfl, rfl, trivial⟩, rfl, trivial⟩ (MemOk.empty w)).mono ?_
  rintro e w' ⟨u, rfl, hu, hx⟩
  exact ⟨by rw [show u = .bool true from hu], hx⟩
end Go.Proofs.Yteehpliloegkgaa
