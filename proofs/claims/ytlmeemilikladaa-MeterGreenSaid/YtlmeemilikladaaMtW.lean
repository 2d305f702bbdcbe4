import Derived.Test.YtlmeemilikladaaE3
import Derived.Test.YtlmeemilikladaaMtM
namespace Go.Proofs.Ytlmeemilikladaa
set_option linter.unusedVariables false
set_option linter.unusedSimpArgs false
open Go.RowKit

set_option maxHeartbeats 1000000 in
theorem check1_any (r n f a b : Int) (w : World) (hr : 0 ≤ r) (hn : 0 ≤ n) (hf : 0 ≤ f) (ha : 0 ≤ a) (hb : 0 ≤ b) :
    Calls Try.prog 24 #[.agg #[.int .u64 r, .int .u64 n, .int .u64 f, .int .u64 a, .int .u64 b]] w fun e w' => e = .returned (.int .i64 (ckOne r n f a b)) ∧ Ext w w' := by
  go_enter Try.func24, Try.ntmps24
  go_wp2
  all_goals go_ret
  all_goals refine ⟨ret_int ?_, (Ext.refl w).alloc _⟩
  all_goals (try simp only [beq_iff_eq, beq_eq_false_iff_ne, ne_eq] at *)
  all_goals (unfold ckOne; (repeat' split) <;> first | rfl | omega)

set_option maxHeartbeats 1000000 in
theorem check2_any (s q n f a b : Int) (w : World) (hs : 0 ≤ s) (hq : 0 ≤ q) (hn : 0 ≤ n) (hf : 0 ≤ f) (ha : 0 ≤ a) (hb : 0 ≤ b) :
    Calls Try.prog 25 #[.agg #[.int .u64 s, .int .u64 q, .int .u64 n, .int .u64 f, .int .u64 a, .int .u64 b]] w fun e w' => e = .returned (.int .i64 (ckTwo s q n f a b)) ∧ Ext w w' := by
  go_enter Try.func25, Try.ntmps25
  go_wp2
  all_goals go_ret
  all_goals refine ⟨ret_int ?_, (Ext.refl w).alloc _⟩
  all_goals (try simp only [beq_iff_eq, beq_eq_false_iff_ne, ne_eq] at *)
  all_goals (unfold ckTwo; (repeat' split) <;> first | rfl | omega)

set_option maxHeartbeats 1000000 in
theorem may1_any (r n f a b : Int) (w : World) (hr : 0 ≤ r) (hn : 0 ≤ n) (hf : 0 ≤ f) (ha : 0 ≤ a) (hb : 0 ≤ b) :
    Calls Try.prog 9 #[.agg #[.int .u64 r, .int .u64 n, .int .u64 f, .int .u64 a, .int .u64 b]] w fun e w' => e = .returned (.int .i64 (ckOne r n f a b)) ∧ Ext w w' := by
  go_enter Try.func9, Try.ntmps9
  go_wp2
  all_goals go_ret
  all_goals refine ⟨ret_int ?_, (Ext.refl w).alloc _⟩
  all_goals (try simp only [beq_iff_eq, beq_eq_false_iff_ne, ne_eq] at *)
  all_goals (unfold ckOne; (repeat' split) <;> first | rfl | omega)

set_option maxHeartbeats 1000000 in
theorem may2_any (s q n f a b : Int) (w : World) (hs : 0 ≤ s) (hq : 0 ≤ q) (hn : 0 ≤ n) (hf : 0 ≤ f) (ha : 0 ≤ a) (hb : 0 ≤ b) :
    Calls Try.prog 10 #[.agg #[.int .u64 s, .int .u64 q, .int .u64 n, .int .u64 f, .int .u64 a, .int .u64 b]] w fun e w' => e = .returned (.int .i64 (ckTwo s q n f a b)) ∧ Ext w w' := by
  go_enter Try.func10, Try.ntmps10
  go_wp2
  all_goals go_ret
  all_goals refine ⟨ret_int ?_, (Ext.refl w).alloc _⟩
  all_goals (try simp only [beq_iff_eq, beq_eq_false_iff_ne, ne_eq] at *)
  all_goals (unfold ckTwo; (repeat' split) <;> first | rfl | omega)

end Go.Proofs.Ytlmeemilikladaa
