import Derived.Test.YtpldacdgifekmaaCrW
namespace Go.Proofs.Ytpldacdgifekmaa
set_option linter.unusedVariables false
set_option linter.unusedSimpArgs false
open Go.RowKit

set_option maxHeartbeats 1000000 in
theorem earns_any (i s h v t bound : Int) (w : World) (hi : 1 ≤ i ∧ i ≤ 1048576) (hv : -1099511627776 ≤ v ∧ v ≤ bound) (hb : bound ≤ 1048576) (ht : 0 ≤ t ∧ t ≤ 18446744073709551615) :
    Calls Try.prog 18 #[.agg #[.int .i64 i, .int .i64 s, .int .i64 h, .int .i64 v], .int .u64 t, .int .i64 bound] w fun e w' => e = .returned (clV i s h (earn i v bound t)) ∧ Ext w w' := by
  have hss := cell_set_same
  have hE := earn_ceil i v bound t hi.1
  have hcb := ceil_bd (bound - v) i hi.1 (by omega)
  have hcl := ceil_le (bound - v) i t hi.1
  obtain ⟨q, hq⟩ : ∃ q, (bound - v + i - 1) / i = q := ⟨_, rfl⟩
  rw [hq] at hE hcb hcl
  obtain ⟨m, hm⟩ : ∃ m, i * t = m := ⟨_, rfl⟩
  rw [hm] at hE hcl
  have bq : 0 ≤ q ∧ q ≤ 1100512676352 := by omega
  by_cases hc : q ≤ t
  · rw [if_pos hc] at hE
    have HE := hid hE
    have e1 : decide (q ≤ t) = true := by simpa using hc
    clear hE hcb hcl hm
    go_enter Try.func18, Try.ntmps18
    go_wp2
    all_goals refine bodyPost_ret (v := .agg #[.int .i64 i, .int .i64 s, .int .i64 h, .int .i64 bound]) (by simp [results, Try.results18, hss, go_sem]) rfl ⟨by rw [HE.out]; rfl, ?_⟩
    all_goals (repeat (refine Ext.setCell ?_ (by simp) _))
    all_goals exact ((Ext.refl w).alloc _).alloc _
  · rw [if_neg hc] at hE
    have HE := hid hE
    have e1 : decide (q ≤ t) = false := by simpa using hc
    have m0 : 0 ≤ m := by rw [← hm]; exact Int.mul_nonneg (by omega) ht.1
    have bm : 0 ≤ m ∧ m < bound - v := ⟨m0, by have := mt hcl.2 hc; omega⟩
    have bt : t ≤ 1100512676352 := by omega
    clear hE hcb hcl
    go_enter Try.func18, Try.ntmps18
    go_wp2
    all_goals refine bodyPost_ret (v := .agg #[.int .i64 i, .int .i64 s, .int .i64 h, .int .i64 (v + m)]) (by simp [results, Try.results18, hss, go_sem]) rfl ⟨by rw [HE.out]; rfl, ?_⟩
    all_goals (repeat (refine Ext.setCell ?_ (by simp) _))
    all_goals exact ((Ext.refl w).alloc _).alloc _

theorem okC_bd {i s h v : Int} (hk : okC i s h v) : (1 ≤ i ∧ i ≤ 1048576) ∧ (1 ≤ s ∧ s ≤ 1048576) ∧ (1 ≤ h ∧ h ≤ 1048576) ∧ -1099511627776 ≤ v ∧ v ≤ h := hk

set_option maxHeartbeats 1000000 in
theorem tick_no (i s h v t : Int) (wt : Bool) (w : World) (hk : ¬ okC i s h v) :
    Calls Try.prog 10 #[.agg #[.int .i64 i, .int .i64 s, .int .i64 h, .int .i64 v], .int .u64 t, .bool wt] w fun e w' => e = .returned zeroC ∧ Ext w w' := by
  have hss := cell_set_same
  have H1 := hid (fun w => calls_eq (check_any i s h v w) (val_int (chk_no i s h v hk).symm))
  clear hk
  go_enter Try.func10, Try.ntmps10
  go_wp2_with (go_at_call 9; ((with_reducible refine (H1.out _).mono ?_); rintro e w1 ⟨rfl, hb1⟩; obtain ⟨hc1, hf1⟩ := hb1.bcell))
  all_goals refine bodyPost_ret (v := .agg #[.int .i64 0, .int .i64 0, .int .i64 0, .int .i64 0]) (by simp [results, Try.results10, hc1, hf1, hss, go_sem]) rfl ⟨rfl, ?_⟩
  all_goals (repeat (refine Ext.setCell ?_ (by simp) _))
  all_goals exact (((Ext.refl w).alloc _).alloc _).trans hb1

set_option maxHeartbeats 2000000 in
theorem tick_yes (i s h v t : Int) (wt : Bool) (w : World) (hk : okC i s h v) (ht : 0 ≤ t ∧ t ≤ 18446744073709551615) :
    Calls Try.prog 10 #[.agg #[.int .i64 i, .int .i64 s, .int .i64 h, .int .i64 v], .int .u64 t, .bool wt] w fun e w' => e = .returned (clV i s h (tickH i h v t wt)) ∧ Ext w w' := by
  have hss := cell_set_same
  obtain ⟨b1, b2, b3, b4⟩ := okC_bd hk
  have H1 := hid (fun w => calls_eq (check_any i s h v w) (val_int (chk_yes i s h v hk).symm))
  cases wt with
  | true =>
    obtain ⟨x, hx⟩ : ∃ x, earn i v h t = x := ⟨_, rfl⟩
    have H2 := hid (fun w => calls_eq (v' := .agg #[.int .i64 i, .int .i64 s, .int .i64 h, .int .i64 x]) (earns_any i s h v t h w b1 b4 b3.2 ht) (by rw [hx]; rfl))
    have HX := hid hx
    clear hk hx
    go_enter Try.func10, Try.ntmps10
    go_wp2_with (first
      | (go_at_call 9; ((with_reducible refine (H1.out _).mono ?_); rintro e w1 ⟨rfl, hb1⟩; obtain ⟨hc1, hf1⟩ := hb1.bcell))
      | (go_at_call 18; ((with_reducible refine (H2.out _).mono ?_); rintro e w2 ⟨rfl, hb2⟩; obtain ⟨hc2, hf2⟩ := hb2.bcell; obtain ⟨z1, z2⟩ : w.heap.size < w1.heap.size ∧ w.heap.size + 1 < w1.heap.size := by (have := hb1.size; simp at this; omega))))
    all_goals refine bodyPost_ret (v := .agg #[.int .i64 i, .int .i64 s, .int .i64 h, .int .i64 x]) (by simp [results, Try.results10, hc1, hf1, hc2, hf2, hss, z1, z2, go_sem]) rfl ⟨by rw [tickH, if_pos rfl, HX.out]; rfl, ?_⟩
    all_goals (repeat (refine Ext.setCell ?_ (by simp) _))
    all_goals exact ((((Ext.refl w).alloc _).alloc _).trans hb1).trans hb2
  | false =>
    by_cases hv : v < 0
    · obtain ⟨x, hx⟩ : ∃ x, earn i v 0 t = x := ⟨_, rfl⟩
      have H2 := hid (fun w => calls_eq (v' := .agg #[.int .i64 i, .int .i64 s, .int .i64 h, .int .i64 x]) (earns_any i s h v t 0 w b1 (by omega) (by omega) ht) (by rw [hx]; rfl))
      have HX := hid hx
      have e1 : decide (v < 0) = true := by simpa using hv
      clear hk hx
      go_enter Try.func10, Try.ntmps10
      go_wp2_with (first
        | (go_at_call 9; ((with_reducible refine (H1.out _).mono ?_); rintro e w1 ⟨rfl, hb1⟩; obtain ⟨hc1, hf1⟩ := hb1.bcell))
        | (go_at_call 18; ((with_reducible refine (H2.out _).mono ?_); rintro e w2 ⟨rfl, hb2⟩; obtain ⟨hc2, hf2⟩ := hb2.bcell; obtain ⟨z1, z2⟩ : w.heap.size < w1.heap.size ∧ w.heap.size + 1 < w1.heap.size := by (have := hb1.size; simp at this; omega))))
      all_goals refine bodyPost_ret (v := .agg #[.int .i64 i, .int .i64 s, .int .i64 h, .int .i64 x]) (by simp [results, Try.results10, hc1, hf1, hc2, hf2, hss, z1, z2, go_sem]) rfl ⟨by rw [tickH, if_neg (by decide), if_pos hv, HX.out]; rfl, ?_⟩
      all_goals (repeat (refine Ext.setCell ?_ (by simp) _))
      all_goals exact ((((Ext.refl w).alloc _).alloc _).trans hb1).trans hb2
    · have e1 : decide (v < 0) = false := by simpa using hv
      clear hk
      go_enter Try.func10, Try.ntmps10
      go_wp2_with (first
        | (go_at_call 9; ((with_reducible refine (H1.out _).mono ?_); rintro e w1 ⟨rfl, hb1⟩; obtain ⟨hc1, hf1⟩ := hb1.bcell)))
      all_goals refine bodyPost_ret (v := .agg #[.int .i64 i, .int .i64 s, .int .i64 h, .int .i64 0]) (by simp [results, Try.results10, hc1, hf1, hss, go_sem]) rfl ⟨by rw [tickH, if_neg (by decide), if_neg (by omega)]; rfl, ?_⟩
      all_goals (repeat (refine Ext.setCell ?_ (by simp) _))
      all_goals exact (((Ext.refl w).alloc _).alloc _).trans hb1
end Go.Proofs.Ytpldacdgifekmaa
