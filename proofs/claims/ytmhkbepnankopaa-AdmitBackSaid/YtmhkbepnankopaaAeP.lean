/- admit: what comes in. No condition. -/
import Derived.Test.YtmhkbepnankopaaAeN
import Derived.Test.YtmhkbepnankopaaEB
namespace Go.Proofs.Ytmhkbepnankopaa
set_option linter.unusedVariables false
set_option linter.unusedSimpArgs false
open Go.RowKit E
abbrev psFl : Shs := .cons 0 1 (.int .u32) (.cons 1 1 (.int .u64) (.cons 2 1 (.int .u64) (.cons 3 1 (.int .u64) (.cons 4 1 (.int .u64) .nil))))
abbrev psA17 : Shs := .cons 0 1 (.int .u8) (.cons 1 1 (.int .u32) (.cons 2 1 (.int .u64) .nil))
abbrev shCf : Sh := .agg 11 (.cons 0 1 (.int .i64) (.cons 1 1 (.int .i64) (.cons 2 1 (.int .i64) (.cons 3 1 (.int .i64) (.cons 4 1 (.int .i64) (.cons 5 1 (.int .u64) (.cons 6 1 (.int .i64) (.cons 7 1 (.int .u64) (.cons 8 1 (.int .u64) (.cons 9 1 (.int .u64) (.cons 10 1 (.slice 5 (.agg 5 psFl)) .nil)))))))))))
theorem list11 {α : Type} {l : List α} (h : l.length = 11) : ∃ a b c d e f g p q r s, l = [a, b, c, d, e, f, g, p, q, r, s] := by
  match l, h with
  | [a, b, c, d, e, f, g, p, q, r, s], _ => exact ⟨a, b, c, d, e, f, g, p, q, r, s, rfl⟩
abbrev cfA (c : Cf) (ao : Option Addr) (n cap : Nat) : Array Value := #[.int .i64 c.a, .int .i64 c.c, .int .i64 c.l, .int .i64 c.q, .int .i64 c.P, .int .u64 c.B, .int .i64 c.S, .int .u64 c.U, .int .u64 c.r, .int .u64 c.u, .slice ao n cap]
theorem cf_args {w : World} {a0 : Array Value} (r0 : Reads w shCf (Value.agg a0).cells.toList) : ∃ (c : Cf) (ao : Option Addr) (n cap : Nat), a0 = cfA c ao n cap ∧ (0 ≤ c.B ∧ c.B ≤ 18446744073709551615) ∧ Reads w (.slice 5 (.agg 5 psFl)) [.slice ao n cap] := by
  obtain ⟨hl, ⟨a, e0, k0⟩, ⟨b, e1, k1⟩, ⟨c, e2, k2⟩, ⟨d, e3, k3⟩, ⟨e, e4, k4⟩, ⟨f, e5, k5⟩, ⟨g, e6, k6⟩, ⟨p, e7, k7⟩, ⟨q, e8, k8⟩, ⟨r, e9, k9⟩, h10, _⟩ := r0
  obtain ⟨ao, n, cap, es, e10, hr⟩ := h10
  refine ⟨⟨a, b, c, d, e, f, g, p, q, r⟩, ao, n, cap, ?_, wf_u64 k5, ⟨ao, n, cap, es, rfl, hr⟩⟩
  apply Array.ext'
  have hl' : a0.toList.length = 11 := hl
  obtain ⟨x0, x1, x2, x3, x4, x5, x6, x7, x8, x9, x10, hq⟩ := list11 hl'
  simp only [Value.cells] at e0 e1 e2 e3 e4 e5 e6 e7 e8 e9 e10
  rw [hq] at e0 e1 e2 e3 e4 e5 e6 e7 e8 e9 e10 ⊢
  simp at e0 e1 e2 e3 e4 e5 e6 e7 e8 e9 e10
  rw [e0, e1, e2, e3, e4, e5, e6, e7, e8, e9, e10]
def flEs (es : Nat → List Value) : Fl := ⟨fun k => cI (es k) 0, fun k => cI (es k) 1, fun k => cI (es k) 2, fun k => cI (es k) 3, fun k => cI (es k) 4⟩
def acEs17 (es : Nat → List Value) : Ac17 := ⟨fun k => cI (es k) 0, fun k => cI (es k) 1, fun k => cI (es k) 2⟩
theorem came17 {w : World} {a1 a2 : Option Addr} {n cap1 len cap2 : Nat} (r1 : Reads w (.slice 5 (.agg 5 psFl)) [.slice a1 n cap1]) (r2 : Reads w (.slice 3 (.agg 3 psA17)) [.slice a2 len cap2]) :
    ∃ (F : Fl) (A : Ac17), (∀ j, j < n → 0 ≤ F.ca j ∧ F.ca j ≤ 18446744073709551615) ∧ (∀ i, i < len → (0 ≤ A.ki i ∧ A.ki i ≤ 255) ∧ (0 ≤ A.n i ∧ A.n i ≤ 18446744073709551615)) ∧ MemOk (env2 (.slice a1 n cap1) (.slice a2 len cap2)) [.ro 5 n (gFl F), .ro 3 len (gA17 A)] w w NoS := by
  obtain ⟨es, b1, s1⟩ := rows_seg (h := 0) (n := 5) (ps := psFl) (env2_0 (.slice a1 n cap1) (.slice a2 len cap2)) rfl rfl r1
  obtain ⟨fs, b2, s2⟩ := rows_seg (h := 1) (n := 3) (ps := psA17) (env2_1 (.slice a1 n cap1) (.slice a2 len cap2)) rfl rfl r2
  refine ⟨flEs es, acEs17 fs, fun i hi => ?_, fun i hi => ?_, two_ro s1 s2⟩
  · obtain ⟨_, c1, c2, c3, c4, _⟩ := b1 i hi
    exact c4
  · obtain ⟨c0, _, c1, _⟩ := b2 i hi
    exact ⟨c0, c1⟩
theorem cok_of {c : Cf} {n : Nat} {F : Fl} (h : chkA c n F = 0) (hB : 0 ≤ c.B ∧ c.B ≤ 18446744073709551615) (hF : ∀ j, j < n → 0 ≤ F.ca j ∧ F.ca j ≤ 18446744073709551615) : COk c n F := by
  obtain ⟨⟨h1, h2, h3, h4⟩, h5, h6, h7⟩ := chk_flows h
  exact ⟨h1, h2, hB.1, hB.2, h3, h4, h6, h7, hF⟩
/-- Where both stand. -/
theorem Sim.same {c : Cf} {n : Nat} {F : Fl} {x : Ga} {P B : Nat → Int} (hc : COk c n F) (h : Sim c n F x P B) (y : Int) :
    (x.n != sI P n) = false ∧ (x.b != sU B n) = false ∧ (gtP x.M x.T y != (Rg.mk c n F P B).ownP y) = false ∧ (gtB x.M x.T y != (Rg.mk c n F P B).ownB y) = false := by
  obtain ⟨h1, h2⟩ := h.sums hc
  obtain ⟨h3, h4⟩ := h.own y
  exact ⟨bne_eq_false_iff_eq.2 h1.symm, bne_eq_false_iff_eq.2 h2.symm, bne_eq_false_iff_eq.2 h3, bne_eq_false_iff_eq.2 h4⟩
end Go.Proofs.Ytmhkbepnankopaa
