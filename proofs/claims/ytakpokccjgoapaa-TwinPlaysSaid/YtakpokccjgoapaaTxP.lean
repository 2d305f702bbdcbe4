/- TwinPlays returns true. No condition. -/
import Derived.Test.YtakpokccjgoapaaTxU
import Derived.Test.YtakpokccjgoapaaTxV
import Derived.Test.YtakpokccjgoapaaEB
namespace Go.Proofs.Ytakpokccjgoapaa
set_option linter.unusedVariables false
set_option linter.unusedSimpArgs false
open Go.RowKit E

theorem tp_loop (m : Int) (h1 : 1 ≤ m) (h2 : m ≤ 4096) (len : Nat) (hl : len ≤ 300) (A : TA) (hA : ∀ i, i < len → 0 ≤ A.kd i ∧ A.kd i ≤ 255) (L : It) :
    CodeOk Try.prog 1 (.loop (loopOf Try.f3 0)) (tpS m 0 len 0 0 A tw0I L) (.exit 0) (mkSt 128 [] [.ro 3 len (gTA A)]) := by
  refine loop_ok (α := Nat × Nat × Int × Tw Int × It) (fun z => tpS m z.2.2.1 len z.2.1 z.1 A z.2.2.2.1 z.2.2.2.2)
    (fun z => z.1 ≤ len ∧ ((z.2.1 : Nat) : Int) ≤ m ∧ (0 ≤ z.2.2.1 ∧ z.2.2.1 ≤ z.1) ∧ Sim z.2.1 z.2.2.2.1 z.2.2.1 z.2.2.2.2) (fun z => len - z.1) (by simp) ?_ (x := (0, 0, 0, tw0I, L))
    ⟨Nat.zero_le _, by simp only; omega, by simp, Sim.zero _ _ _ (show (0 : Int) < 18446744073709551616 by decide)⟩
  rintro ⟨i, n, c, T, L⟩ ⟨i1, i2, i3, i4⟩
  simp only at i1 i2 i3 i4
  by_cases e : i = len
  · subst e
    exact .inr (tp_e m c i n A T L)
  have hi : i < len := by omega
  have ho : ActOk n T c L (A.kd i) m := ⟨i4, ⟨by omega, h2, i3.1, by omega⟩, h1, i2, hA i hi⟩
  obtain ⟨q1, q2, q3, q4⟩ := act_sim ho (A.r i) (A.x i)
  obtain ⟨f1, f2, f3⟩ := q1.first
  obtain ⟨l1, l2, l3⟩ := q1.last
  refine .inl ⟨(i + 1, _, _, _, _), ⟨(show i + 1 ≤ len by omega), q2, ⟨(show 0 ≤ acC n T c (Int.tmod (A.kd i) 8) (A.r i) m by omega), ?_⟩, q1⟩, (show len - (i + 1) < len - i by omega),
    tp_n m c len n i A T L hi hl ho _ rfl (by omega) _ rfl _ rfl _ rfl f1 f2 f3 l1 l2 l3⟩
  show acC n T c (Int.tmod (A.kd i) 8) (A.r i) m ≤ ((i + 1 : Nat) : Int)
  omega
abbrev psTA : Shs := .cons 0 1 (.int .u8) (.cons 1 1 (.int .u64) (.cons 2 1 (.int .i64) .nil))
def taEs (es : Nat → List Value) : TA := ⟨fun k => cI (es k) 0, fun k => cI (es k) 1, fun k => cI (es k) 2⟩
theorem tplays_walk (m : Int) (a1 : Option Addr) (len cap : Nat) (w : World) (w0 : (Lit.int .i64 m).wf = true) (r1 : Reads w (.slice 3 (.agg 3 psTA)) (Value.slice a1 len cap).cells.toList) :
    Calls Try.prog 3 #[.int .i64 m, .slice a1 len cap] w fun e w' => e = .returned (.bool true) ∧ Ext w w' := by
  have he := Env.put_same (env := noEnv) 0 (.slice a1 len cap)
  obtain ⟨es, b1, hs⟩ := rows_seg (h := 0) (n := 3) (ps := psTA) he rfl rfl r1
  have hA : ∀ i, i < len → 0 ≤ (taEs es).kd i ∧ (taEs es).kd i ≤ 255 := fun i hi => by
    obtain ⟨c1, _⟩ := b1 i hi
    exact c1
  have fin : LawOk Try.prog 3 [iA m, .nv (.one (.own 0))] [.ro 3 len (gTA (taEs es))] (bA true) := by
    by_cases hm : 1 ≤ m ∧ m ≤ 4096
    · have hb : mayB m = true := by unfold mayB; rw [decide_eq_true hm.1, decide_eq_true hm.2]; rfl
      by_cases hl : 300 < len
      · exact tp_l m len _ hb hm.1 hm.2 hl
      · exact tp_m m len _ ⟨fun _ => 0, fun _ => 0⟩ hb hm.1 hm.2 hl (tp_loop m hm.1 hm.2 len (by omega) _ hA _)
    · have hb : mayB m = false := by
        unfold mayB
        by_cases h1 : 1 ≤ m
        · rw [decide_eq_false (show ¬ m ≤ 4096 by omega), Bool.and_false]
        · rw [decide_eq_false h1]; rfl
      exact tp_x m len _ hb (by omega)
  refine (fin _ [.int .i64 m, .slice a1 len cap] w ⟨rfl, ⟨he, _, _, _, rfl⟩, trivial⟩ (one_ro hs)).mono ?_
  rintro e w' ⟨u, rfl, hu, hx⟩
  exact ⟨by rw [show u = .bool true from hu], hx⟩
end Go.Proofs.Ytakpokccjgoapaa
