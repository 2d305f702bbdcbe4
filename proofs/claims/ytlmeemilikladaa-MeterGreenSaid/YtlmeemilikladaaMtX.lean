import Derived.Test.YtlmeemilikladaaMtL
import Derived.Test.YtlmeemilikladaaEB
import Derived.Deep.QuietTactic
import Derived.BigQuiet
namespace Go.Proofs.Ytlmeemilikladaa
set_option linter.unusedVariables false
set_option linter.unusedSimpArgs false
open Go.RowKit

/-- What the walk asks of the two answers: the colours, and what the meters then are. -/
theorem worse_law1 (a b x came : Int) : (if came < 1 ∨ 3 < came then (1 : Int) else came) ≤ colOne a b x came ∧ colOne a b x came ≤ 3 ∧ (colOne a b x came = 3 → tokA1 a b x came = a ∧ tokB1 a b x came = b) := by
  unfold tokA1 tokB1 colOne
  (repeat' split) <;> omega
theorem worse_law2 (a b x came : Int) : (if came < 1 ∨ 3 < came then (1 : Int) else came) ≤ colTwo a b x came ∧ colTwo a b x came ≤ 3 ∧ (colTwo a b x came = 3 → tokA2 a b x came = a ∧ tokB2 a b x came = b) := by
  unfold tokA2 tokB2 colTwo
  (repeat' split) <;> omega

set_option maxHeartbeats 2000000 in
theorem worse_any (r n f a b s q n2 f2 a2 b2 tk x came p pq A B A2 B2 c1 c2 R N F S Q N2 F2 : Int) (w : World)
    (hr : 0 ≤ r) (hn : 0 ≤ n) (hf : 0 ≤ f) (ha : 0 ≤ a) (hb : 0 ≤ b) (hs : 0 ≤ s) (hq : 0 ≤ q) (hn2 : 0 ≤ n2) (hf2 : 0 ≤ f2) (ha2 : 0 ≤ a2) (hb2 : 0 ≤ b2)
    (H1 : Hid (∀ w, Calls Try.prog 7 #[.agg #[.int .u64 r, .int .u64 n, .int .u64 f, .int .u64 a, .int .u64 b], .int .u64 x, .int .i64 came] w fun e w' =>
      e = .returned (.tuple #[.agg #[.int .u64 R, .int .u64 N, .int .u64 F, .int .u64 A, .int .u64 B], .int .i64 p]) ∧ Ext w w'))
    (H2 : Hid (∀ w, Calls Try.prog 8 #[.agg #[.int .u64 s, .int .u64 q, .int .u64 n2, .int .u64 f2, .int .u64 a2, .int .u64 b2], .int .u64 x, .int .i64 came] w fun e w' =>
      e = .returned (.tuple #[.agg #[.int .u64 S, .int .u64 Q, .int .u64 N2, .int .u64 F2, .int .u64 A2, .int .u64 B2], .int .i64 pq]) ∧ Ext w w'))
    (hc1 : ckOne r n f a b = c1) (hc2 : ckTwo s q n2 f2 a2 b2 = c2)
    (l1 : (if came < 1 ∨ 3 < came then (1 : Int) else came) ≤ p) (l2 : (if came < 1 ∨ 3 < came then (1 : Int) else came) ≤ pq) (u1 : p ≤ 3) (u2 : pq ≤ 3)
    (e1 : c1 = 0 → p = 3 → R = r ∧ N = n ∧ F = f ∧ A = a ∧ B = b) (e2 : c2 = 0 → pq = 3 → S = s ∧ Q = q ∧ N2 = n2 ∧ F2 = f2 ∧ A2 = a2 ∧ B2 = b2) :
    Calls Try.prog 3 #[.agg #[.int .u64 r, .int .u64 n, .int .u64 f, .int .u64 a, .int .u64 b], .agg #[.int .u64 s, .int .u64 q, .int .u64 n2, .int .u64 f2, .int .u64 a2, .int .u64 b2], .agg #[.int .u64 tk, .int .u64 x, .int .i64 came]] w fun e w' =>
      e = .returned (.bool true) ∧ Ext w w' := by
  have H3 := hid (fun w => calls_eq (may1_any r n f a b w hr hn hf ha hb) (val_int hc1))
  have H4 := hid (fun w => calls_eq (may2_any s q n2 f2 a2 b2 w hs hq hn2 hf2 ha2 hb2) (val_int hc2))
  have E1 := hid e1
  have E2 := hid e2
  have hss := cell_set_same
  clear hc1 hc2 e1 e2
  by_cases h1 : c1 = 0 ∧ p = 3
  · obtain ⟨rfl, rfl⟩ := h1
    obtain ⟨rfl, rfl, rfl, rfl, rfl⟩ := E1.out rfl rfl
    clear E1
    by_cases h2 : c2 = 0 ∧ pq = 3
    · obtain ⟨rfl, rfl⟩ := h2
      obtain ⟨rfl, rfl, rfl, rfl, rfl, rfl⟩ := E2.out rfl rfl
      clear E2
      (go_enter Try.func3, Try.ntmps3
       go_wp2_with fail
       go_region
       go_wp2_with (first
         | (go_at_call 7; ((with_reducible refine (H1.out _).mono ?_); rintro e w1 ⟨rfl, hb1⟩; obtain ⟨hc1, hf1⟩ := hb1.bcell; obtain ⟨z1, z2, z3⟩ : w.heap.size < w1.heap.size ∧ w.heap.size + 1 < w1.heap.size ∧ w.heap.size + 2 < w1.heap.size := by (have := hb1.size; simp at this; omega)))
         | (go_at_call 8; ((with_reducible refine (H2.out _).mono ?_); rintro e w2 ⟨rfl, hb2⟩; obtain ⟨hc2, hf2⟩ := hb2.bcell; obtain ⟨y1, y2, y3, y4⟩ : w.heap.size < w2.heap.size ∧ w.heap.size + 1 < w2.heap.size ∧ w.heap.size + 2 < w2.heap.size ∧ w1.heap.size < w2.heap.size := by (have := hb2.size; simp at this; omega)))
         | (go_at_call 9; ((with_reducible refine (H3.out _).mono ?_); rintro e w3 ⟨rfl, hb3⟩; obtain ⟨hc3, hf3⟩ := hb3.bcell; obtain ⟨x1, x2, x3, x4, x5⟩ : w.heap.size < w3.heap.size ∧ w.heap.size + 1 < w3.heap.size ∧ w.heap.size + 2 < w3.heap.size ∧ w1.heap.size < w3.heap.size ∧ w2.heap.size < w3.heap.size := by (have := hb3.size; simp at this; omega)))
         | (go_at_call 10; ((with_reducible refine (H4.out _).mono ?_); rintro e w4 ⟨rfl, hb4⟩; obtain ⟨hc4, hf4⟩ := hb4.bcell))
         | (go_at_call 11; ((with_reducible refine (lives_any _).mono ?_); rintro e w7 ⟨rfl, hb7⟩)))
       all_goals go_ret
       all_goals refine ⟨rfl, ?_⟩
       all_goals exact (((((((((((Ext.refl w).alloc _).alloc _).alloc _).drew).trans hb1).alloc _).trans hb2).alloc _).trans hb3).trans hb4).trans hb7)
    · clear E2
      (go_enter Try.func3, Try.ntmps3
       go_wp2_with fail
       go_region
       go_wp2_with (first
         | (go_at_call 7; ((with_reducible refine (H1.out _).mono ?_); rintro e w1 ⟨rfl, hb1⟩; obtain ⟨hc1, hf1⟩ := hb1.bcell; obtain ⟨z1, z2, z3⟩ : w.heap.size < w1.heap.size ∧ w.heap.size + 1 < w1.heap.size ∧ w.heap.size + 2 < w1.heap.size := by (have := hb1.size; simp at this; omega)))
         | (go_at_call 8; ((with_reducible refine (H2.out _).mono ?_); rintro e w2 ⟨rfl, hb2⟩; obtain ⟨hc2, hf2⟩ := hb2.bcell; obtain ⟨y1, y2, y3, y4⟩ : w.heap.size < w2.heap.size ∧ w.heap.size + 1 < w2.heap.size ∧ w.heap.size + 2 < w2.heap.size ∧ w1.heap.size < w2.heap.size := by (have := hb2.size; simp at this; omega)))
         | (go_at_call 9; ((with_reducible refine (H3.out _).mono ?_); rintro e w3 ⟨rfl, hb3⟩; obtain ⟨hc3, hf3⟩ := hb3.bcell; obtain ⟨x1, x2, x3, x4, x5⟩ : w.heap.size < w3.heap.size ∧ w.heap.size + 1 < w3.heap.size ∧ w.heap.size + 2 < w3.heap.size ∧ w1.heap.size < w3.heap.size ∧ w2.heap.size < w3.heap.size := by (have := hb3.size; simp at this; omega)))
         | (go_at_call 10; ((with_reducible refine (H4.out _).mono ?_); rintro e w4 ⟨rfl, hb4⟩; obtain ⟨hc4, hf4⟩ := hb4.bcell))
         | (go_at_call 11; ((with_reducible refine (lives_any _).mono ?_); rintro e w7 ⟨rfl, hb7⟩)))
       all_goals go_ret
       all_goals refine ⟨rfl, ?_⟩
       all_goals exact (((((((((((Ext.refl w).alloc _).alloc _).alloc _).drew).trans hb1).alloc _).trans hb2).alloc _).trans hb3).trans hb4).trans hb7)
  · clear E1
    by_cases h2 : c2 = 0 ∧ pq = 3
    · obtain ⟨rfl, rfl⟩ := h2
      obtain ⟨rfl, rfl, rfl, rfl, rfl, rfl⟩ := E2.out rfl rfl
      clear E2
      (go_enter Try.func3, Try.ntmps3
       go_wp2_with fail
       go_region
       go_wp2_with (first
         | (go_at_call 7; ((with_reducible refine (H1.out _).mono ?_); rintro e w1 ⟨rfl, hb1⟩; obtain ⟨hc1, hf1⟩ := hb1.bcell; obtain ⟨z1, z2, z3⟩ : w.heap.size < w1.heap.size ∧ w.heap.size + 1 < w1.heap.size ∧ w.heap.size + 2 < w1.heap.size := by (have := hb1.size; simp at this; omega)))
         | (go_at_call 8; ((with_reducible refine (H2.out _).mono ?_); rintro e w2 ⟨rfl, hb2⟩; obtain ⟨hc2, hf2⟩ := hb2.bcell; obtain ⟨y1, y2, y3, y4⟩ : w.heap.size < w2.heap.size ∧ w.heap.size + 1 < w2.heap.size ∧ w.heap.size + 2 < w2.heap.size ∧ w1.heap.size < w2.heap.size := by (have := hb2.size; simp at this; omega)))
         | (go_at_call 9; ((with_reducible refine (H3.out _).mono ?_); rintro e w3 ⟨rfl, hb3⟩; obtain ⟨hc3, hf3⟩ := hb3.bcell; obtain ⟨x1, x2, x3, x4, x5⟩ : w.heap.size < w3.heap.size ∧ w.heap.size + 1 < w3.heap.size ∧ w.heap.size + 2 < w3.heap.size ∧ w1.heap.size < w3.heap.size ∧ w2.heap.size < w3.heap.size := by (have := hb3.size; simp at this; omega)))
         | (go_at_call 10; ((with_reducible refine (H4.out _).mono ?_); rintro e w4 ⟨rfl, hb4⟩; obtain ⟨hc4, hf4⟩ := hb4.bcell))
         | (go_at_call 11; ((with_reducible refine (lives_any _).mono ?_); rintro e w7 ⟨rfl, hb7⟩)))
       all_goals go_ret
       all_goals refine ⟨rfl, ?_⟩
       all_goals exact (((((((((((Ext.refl w).alloc _).alloc _).alloc _).drew).trans hb1).alloc _).trans hb2).alloc _).trans hb3).trans hb4).trans hb7)
    · clear E2
      (go_enter Try.func3, Try.ntmps3
       go_wp2_with fail
       go_region
       go_wp2_with (first
         | (go_at_call 7; ((with_reducible refine (H1.out _).mono ?_); rintro e w1 ⟨rfl, hb1⟩; obtain ⟨hc1, hf1⟩ := hb1.bcell; obtain ⟨z1, z2, z3⟩ : w.heap.size < w1.heap.size ∧ w.heap.size + 1 < w1.heap.size ∧ w.heap.size + 2 < w1.heap.size := by (have := hb1.size; simp at this; omega)))
         | (go_at_call 8; ((with_reducible refine (H2.out _).mono ?_); rintro e w2 ⟨rfl, hb2⟩; obtain ⟨hc2, hf2⟩ := hb2.bcell; obtain ⟨y1, y2, y3, y4⟩ : w.heap.size < w2.heap.size ∧ w.heap.size + 1 < w2.heap.size ∧ w.heap.size + 2 < w2.heap.size ∧ w1.heap.size < w2.heap.size := by (have := hb2.size; simp at this; omega)))
         | (go_at_call 9; ((with_reducible refine (H3.out _).mono ?_); rintro e w3 ⟨rfl, hb3⟩; obtain ⟨hc3, hf3⟩ := hb3.bcell; obtain ⟨x1, x2, x3, x4, x5⟩ : w.heap.size < w3.heap.size ∧ w.heap.size + 1 < w3.heap.size ∧ w.heap.size + 2 < w3.heap.size ∧ w1.heap.size < w3.heap.size ∧ w2.heap.size < w3.heap.size := by (have := hb3.size; simp at this; omega)))
         | (go_at_call 10; ((with_reducible refine (H4.out _).mono ?_); rintro e w4 ⟨rfl, hb4⟩; obtain ⟨hc4, hf4⟩ := hb4.bcell))
         | (go_at_call 11; ((with_reducible refine (lives_any _).mono ?_); rintro e w7 ⟨rfl, hb7⟩)))
       all_goals go_ret
       all_goals refine ⟨rfl, ?_⟩
       all_goals exact (((((((((((Ext.refl w).alloc _).alloc _).alloc _).drew).trans hb1).alloc _).trans hb2).alloc _).trans hb3).trans hb4).trans hb7)
end Go.Proofs.Ytlmeemilikladaa
