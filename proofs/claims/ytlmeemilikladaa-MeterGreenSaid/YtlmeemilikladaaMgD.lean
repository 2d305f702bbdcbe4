/- MeterCut returns true. No condition. -/
import Derived.Test.YtlmeemilikladaaMgC
import Derived.Test.YtlmeemilikladaaMtY
import Derived.Test.YtlmeemilikladaaEB
namespace Go.Proofs.Ytlmeemilikladaa
set_option linter.unusedVariables false
set_option linter.unusedSimpArgs false
open Go.RowKit E

theorem up_up {a n x y z : Int} (ha : a ≤ n) (hx : 0 ≤ x) (hy : 0 ≤ y) (hz : z = x + y) : upTo (upTo a n x) n y = upTo a n z := by
  unfold upTo; (repeat' split) <;> omega
theorem over_over {a n x y z : Int} (ha : a ≤ n) (hx : 0 ≤ x) (hy : 0 ≤ y) (hz : z = x + y) : over a n z = over a n x + over (upTo a n x) n y := by
  unfold upTo over; (repeat' split) <;> omega
abbrev shArr2 : Sh := .agg 2 (.cons 0 1 (.int .u64) (.cons 1 1 (.int .u64) .nil))
theorem reads_two {w : World} {cs : Array Value} (h : Reads w shArr2 cs.toList) : ∃ x y : Int, cs = #[.int .u64 x, .int .u64 y] ∧ (0 ≤ x ∧ x ≤ 18446744073709551615) ∧ (0 ≤ y ∧ y ≤ 18446744073709551615) := by
  obtain ⟨hl, ⟨a, e0, k0⟩, ⟨b, e1, k1⟩, _⟩ := h
  refine ⟨a, b, ?_, wf_u64 k0, wf_u64 k1⟩
  apply Array.ext'
  obtain ⟨x, y, q⟩ := list2 hl
  rw [q] at e0 e1 ⊢
  simp at e0 e1
  rw [e0, e1]

theorem cut_walk (c1 c2 c3 : Array Value) (w : World)
    (h1 : Reads w (.agg 5 (.cons 0 1 (.int .u64) (.cons 1 1 (.int .u64) (.cons 2 1 (.int .u64) (.cons 3 1 (.int .u64) (.cons 4 1 (.int .u64) .nil)))))) (Value.agg c1).cells.toList)
    (h2 : Reads w (.agg 6 (.cons 0 1 (.int .u64) (.cons 1 1 (.int .u64) (.cons 2 1 (.int .u64) (.cons 3 1 (.int .u64) (.cons 4 1 (.int .u64) (.cons 5 1 (.int .u64) .nil))))))) (Value.agg c2).cells.toList)
    (h3 : Reads w shArr2 (Value.agg c3).cells.toList) :
    Calls Try.prog 4 #[.agg c1, .agg c2, .agg c3] w fun e w' => e = .returned (.bool true) ∧ Ext w w' := by
  obtain ⟨r, n, f, a, b, rfl, wr, wn, wf, wa, wb⟩ := reads_five (cs := c1) h1
  obtain ⟨s, q, n2, f2, c, d, rfl, ws, wq, wn2, wf2, wc, wd⟩ := reads_six (cs := c2) h2
  obtain ⟨x0, y0, rfl, wx, wy⟩ := reads_two (cs := c3) h3
  have ex : ∀ x : Int, Int.fdiv x 2 = x / 2 := fun x => Int.fdiv_eq_ediv_of_nonneg x (by omega)
  have ex2 : ∀ x : Int, Int.fdiv x ((2 : Int) ^ (1 : Nat)) = x / 2 := fun x => by rw [show ((2 : Int) ^ (1 : Nat)) = 2 from rfl]; exact ex x
  have hx : 0 ≤ x0 / 2 ∧ x0 / 2 ≤ 9223372036854775807 := by omega
  have hy : 0 ≤ y0 / 2 ∧ y0 / 2 ≤ 9223372036854775807 := by omega
  have fin : PureOk Try.prog 4 [.nv (oneN r n f a b), .nv (twoN s q n2 f2 c d), .nv (.agg [.val (.int .u64 x0), .val (.int .u64 y0)])] (bA true) := by
    have e1 := ex x0; have e2 := ex y0; have e3 := ex2 x0; have e4 := ex2 y0
    generalize x0 / 2 = x at *
    generalize y0 / 2 = y at *
    have wz : IntKind.wrap IntKind.u64 (x + y) = x + y := wU64 rfl (by omega)
    have mul : ∀ r : Int, 0 ≤ r → 0 ≤ r * x ∧ 0 ≤ r * y ∧ r * (x + y) = r * x + r * y := fun r hr => ⟨Int.mul_nonneg hr hx.1, Int.mul_nonneg hr hy.1, Int.mul_add _ _ _⟩
    have hz : 0 ≤ x + y ∧ x + y ≤ 18446744073709551615 := by omega
    have hx' : 0 ≤ x ∧ x ≤ 18446744073709551615 := by omega
    have hy' : 0 ≤ y ∧ y ≤ 18446744073709551615 := by omega
    obtain ⟨r1, r2, r3⟩ := mul r wr.1
    obtain ⟨s1, s2, s3⟩ := mul s ws.1
    obtain ⟨q1, q2, q3⟩ := mul q wq.1
    have one : ckOne r n f a b = 0 → ckOne r n f (upTo a n (r * x)) (upTo b f (over a n (r * x))) = 0 ∧ (0 ≤ upTo a n (r * x) ∧ upTo a n (r * x) ≤ 18446744073709551615) ∧ (0 ≤ upTo b f (over a n (r * x)) ∧ upTo b f (over a n (r * x)) ≤ 18446744073709551615) ∧
        upTo a n (r * (x + y)) = upTo (upTo a n (r * x)) n (r * y) ∧ upTo b f (over a n (r * (x + y))) = upTo (upTo b f (over a n (r * x))) f (over (upTo a n (r * x)) n (r * y)) := by
      intro k
      obtain ⟨k1, k2, k3, k4⟩ := ck1_iff.1 k
      have b1 := upTo_bd wa.1 r1 k3
      have b2 := upTo_bd wb.1 (over_nn (a := a) (n := n) (c := r * x)) k4
      exact ⟨ck1_iff.2 ⟨k1, k2, b1.2, b2.2⟩, by omega, by omega, (up_up k3 r1 r2 r3).symm, (up_up k4 over_nn over_nn (over_over k3 r1 r2 r3)).symm⟩
    have two : ckTwo s q n2 f2 c d = 0 → ckTwo s q n2 f2 (upTo c n2 (s * x)) (upTo d f2 (q * x)) = 0 ∧ (0 ≤ upTo c n2 (s * x) ∧ upTo c n2 (s * x) ≤ 18446744073709551615) ∧ (0 ≤ upTo d f2 (q * x) ∧ upTo d f2 (q * x) ≤ 18446744073709551615) ∧
        upTo c n2 (s * (x + y)) = upTo (upTo c n2 (s * x)) n2 (s * y) ∧ upTo d f2 (q * (x + y)) = upTo (upTo d f2 (q * x)) f2 (q * y) := by
      intro k
      obtain ⟨k1, k2, k3, k4, k5, k6⟩ := ck2_iff.1 k
      have b1 := upTo_bd wc.1 s1 k5
      have b2 := upTo_bd wd.1 q1 k6
      exact ⟨ck2_iff.2 ⟨k1, k2, k3, k4, b1.2, b2.2⟩, by omega, by omega, (up_up k5 s1 s2 s3).symm, (up_up k6 q1 q2 q3).symm⟩
    by_cases k1 : ckOne r n f a b = 0 <;> by_cases l1 : ckTwo s q n2 f2 c d = 0
    · obtain ⟨o1, o2, o3, o4, o5⟩ := one k1
      obtain ⟨t1, t2, t3, t4, t5⟩ := two l1
      exact cut_tt r n f a b s q n2 f2 c d x0 y0 x y (x + y) wr wn wf wa wb ws wq wn2 wf2 wc wd hx' hy' hz e3 e4 e1 e2 wz k1 _ _ _ _ rfl rfl o1 o2 o3 rfl rfl o4 o5 l1 _ _ _ _ rfl rfl t1 t2 t3 rfl rfl t4 t5
    · obtain ⟨o1, o2, o3, o4, o5⟩ := one k1
      exact cut_tf r n f a b s q n2 f2 c d x0 y0 x y (x + y) wr wn wf wa wb ws wq wn2 wf2 wc wd hx' hy' hz e3 e4 e1 e2 wz k1 _ _ _ _ rfl rfl o1 o2 o3 rfl rfl o4 o5 l1 rfl
    · obtain ⟨t1, t2, t3, t4, t5⟩ := two l1
      exact cut_ft r n f a b s q n2 f2 c d x0 y0 x y (x + y) wr wn wf wa wb ws wq wn2 wf2 wc wd hx' hy' hz e3 e4 e1 e2 wz k1 rfl l1 _ _ _ _ rfl rfl t1 t2 t3 rfl rfl t4 t5
    · exact cut_ff r n f a b s q n2 f2 c d x0 y0 x y (x + y) wr wn wf wa wb ws wq wn2 wf2 wc wd hx' hy' hz e3 e4 e1 e2 wz k1 rfl l1 rfl
  refine (fin [.agg #[.int .u64 r, .int .u64 n, .int .u64 f, .int .u64 a, .int .u64 b], .agg #[.int .u64 s, .int .u64 q, .int .u64 n2, .int .u64 f2, .int .u64 c, .int .u64 d], .agg #[.int .u64 x0, .int .u64 y0]] w
    ⟨⟨_, rfl, rfl, rfl, rfl, rfl, rfl, trivial⟩, ⟨_, rfl, rfl, rfl, rfl, rfl, rfl, rfl, trivial⟩, ⟨_, rfl, rfl, rfl, trivial⟩, trivial⟩).mono ?_
  rintro e w' ⟨u, rfl, hu, hx⟩
  exact ⟨by rw [show u = .bool true from hu], hx⟩
end Go.Proofs.Ytlmeemilikladaa
