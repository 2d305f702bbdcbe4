import Derived.Test.YtpldacdgifekmaaCrS
namespace Go.Proofs.Ytpldacdgifekmaa
set_option linter.unusedVariables false
set_option linter.unusedSimpArgs false
open Go.RowKit

/-- What a class is behind a packet, and whether it was sent. -/
def sentV (i s h v n : Int) : Value := if okC i s h v then (if v < 0 ∨ 65535 < n then clV i s h v else clV i s h (v - s * n)) else zeroC
def sentB (i s h v n : Int) : Bool := decide (okC i s h v ∧ 0 ≤ v ∧ n ≤ 65535)
theorem sent_bd {i s h v n : Int} (hk : okC i s h v) (h0 : 0 ≤ n) (hn : n ≤ 65535) : 0 ≤ s * n ∧ s * n ≤ 68718428160 := by
  obtain ⟨_, b2, _, _⟩ := okC_bd hk
  refine ⟨Int.mul_nonneg (by omega) h0, ?_⟩
  have h1 : s * n ≤ 1048576 * n := Int.mul_le_mul_of_nonneg_right b2.2 h0
  omega

set_option maxHeartbeats 1000000 in
theorem sent_no (i s h v n : Int) (w : World) (hk : ¬ okC i s h v) (hn : 0 ≤ n ∧ n ≤ 18446744073709551615) :
    Calls Try.prog 15 #[.agg #[.int .i64 i, .int .i64 s, .int .i64 h, .int .i64 v], .int .u64 n] w fun e w' => e = .returned (.tuple #[zeroC, .bool false]) ∧ Ext w w' := by
  have hss := cell_set_same
  have H1 := hid (fun w => calls_eq (check_any i s h v w) (val_int (chk_no i s h v hk).symm))
  clear hk
  go_enter Try.func15, Try.ntmps15
  go_wp2_with (go_at_call 9; ((with_reducible refine (H1.out _).mono ?_); rintro e w1 ⟨rfl, hb1⟩; obtain ⟨hc1, hf1⟩ := hb1.bcell; have k3 := hb1.cell (p := ⟨w.heap.size, 3, none⟩) (v := .int .i64 v) (by simp)))
  all_goals refine bodyPost_ret (v := .tuple #[zeroC, .bool false]) (by simp [results, Try.results15, hc1, hf1, hss, k3, go_sem, zeroC, clV]) rfl ⟨rfl, ?_⟩
  all_goals (repeat (refine Ext.setCell ?_ (by simp) _))
  all_goals exact (((Ext.refl w).alloc _).alloc _).trans hb1

set_option maxHeartbeats 1000000 in
theorem sent_neg (i s h v n : Int) (w : World) (hk : okC i s h v) (hn : 0 ≤ n ∧ n ≤ 18446744073709551615) (hv : v < 0) :
    Calls Try.prog 15 #[.agg #[.int .i64 i, .int .i64 s, .int .i64 h, .int .i64 v], .int .u64 n] w fun e w' => e = .returned (.tuple #[clV i s h v, .bool false]) ∧ Ext w w' := by
  have hss := cell_set_same
  have H1 := hid (fun w => calls_eq (check_any i s h v w) (val_int (chk_yes i s h v hk).symm))
  have e1 : decide (v < 0) = true := by simpa using hv
  clear hk
  go_enter Try.func15, Try.ntmps15
  go_wp2_with (go_at_call 9; ((with_reducible refine (H1.out _).mono ?_); rintro e w1 ⟨rfl, hb1⟩; obtain ⟨hc1, hf1⟩ := hb1.bcell; have k3 := hb1.cell (p := ⟨w.heap.size, 3, none⟩) (v := .int .i64 v) (by simp)))
  all_goals refine bodyPost_ret (v := .tuple #[clV i s h v, .bool false]) (by simp [results, Try.results15, hc1, hf1, hss, k3, go_sem, zeroC, clV]) rfl ⟨rfl, ?_⟩
  all_goals (repeat (refine Ext.setCell ?_ (by simp) _))
  all_goals exact (((Ext.refl w).alloc _).alloc _).trans hb1

set_option maxHeartbeats 1000000 in
theorem sent_long (i s h v n : Int) (w : World) (hk : okC i s h v) (hn : 0 ≤ n ∧ n ≤ 18446744073709551615) (hv : 0 ≤ v) (hl : 65535 < n) :
    Calls Try.prog 15 #[.agg #[.int .i64 i, .int .i64 s, .int .i64 h, .int .i64 v], .int .u64 n] w fun e w' => e = .returned (.tuple #[clV i s h v, .bool false]) ∧ Ext w w' := by
  have hss := cell_set_same
  have H1 := hid (fun w => calls_eq (check_any i s h v w) (val_int (chk_yes i s h v hk).symm))
  have e1 : decide (v < 0) = false := by simpa using hv
  have e2 : decide (65535 < n) = true := by simpa using hl
  clear hk
  go_enter Try.func15, Try.ntmps15
  go_wp2_with (go_at_call 9; ((with_reducible refine (H1.out _).mono ?_); rintro e w1 ⟨rfl, hb1⟩; obtain ⟨hc1, hf1⟩ := hb1.bcell; have k3 := hb1.cell (p := ⟨w.heap.size, 3, none⟩) (v := .int .i64 v) (by simp)))
  all_goals refine bodyPost_ret (v := .tuple #[clV i s h v, .bool false]) (by simp [results, Try.results15, hc1, hf1, hss, k3, go_sem, zeroC, clV]) rfl ⟨rfl, ?_⟩
  all_goals (repeat (refine Ext.setCell ?_ (by simp) _))
  all_goals exact (((Ext.refl w).alloc _).alloc _).trans hb1

set_option maxHeartbeats 1000000 in
theorem sent_yes (i s h v n : Int) (w : World) (hk : okC i s h v) (hn : 0 ≤ n ∧ n ≤ 18446744073709551615) (hv : 0 ≤ v) (hl : n ≤ 65535) (m : Int) (hm : s * n = m) (bm : 0 ≤ m ∧ m ≤ 68718428160) :
    Calls Try.prog 15 #[.agg #[.int .i64 i, .int .i64 s, .int .i64 h, .int .i64 v], .int .u64 n] w fun e w' => e = .returned (.tuple #[clV i s h (v - m), .bool true]) ∧ Ext w w' := by
  have hss := cell_set_same
  have H1 := hid (fun w => calls_eq (check_any i s h v w) (val_int (chk_yes i s h v hk).symm))
  have e1 : decide (v < 0) = false := by simpa using hv
  have e2 : decide (65535 < n) = false := by simpa using hl
  obtain ⟨b1, b2, b3, b4⟩ := okC_bd hk
  clear hk
  go_enter Try.func15, Try.ntmps15
  go_wp2_with (go_at_call 9; ((with_reducible refine (H1.out _).mono ?_); rintro e w1 ⟨rfl, hb1⟩; obtain ⟨hc1, hf1⟩ := hb1.bcell; have k3 := hb1.cell (p := ⟨w.heap.size, 3, none⟩) (v := .int .i64 v) (by simp)))
  all_goals refine bodyPost_ret (v := .tuple #[clV i s h (v - m), .bool true]) (by simp [results, Try.results15, hc1, hf1, hss, k3, go_sem, zeroC, clV]) rfl ⟨rfl, ?_⟩
  all_goals (repeat (refine Ext.setCell ?_ (by simp) _))
  all_goals exact (((Ext.refl w).alloc _).alloc _).trans hb1

theorem sent_any (i s h v n : Int) (w : World) (hn : 0 ≤ n ∧ n ≤ 18446744073709551615) :
    Calls Try.prog 15 #[.agg #[.int .i64 i, .int .i64 s, .int .i64 h, .int .i64 v], .int .u64 n] w fun e w' => e = .returned (.tuple #[sentV i s h v n, .bool (sentB i s h v n)]) ∧ Ext w w' := by
  unfold sentV sentB
  by_cases hk : okC i s h v
  · rw [if_pos hk]
    by_cases hv : v < 0
    · rw [if_pos (Or.inl hv)]
      exact calls_eq (sent_neg i s h v n w hk hn hv) (val_pair rfl (val_bool (decide_eq_false (fun k => by omega)).symm))
    · by_cases hl : 65535 < n
      · rw [if_pos (Or.inr hl)]
        exact calls_eq (sent_long i s h v n w hk hn (by omega) hl) (val_pair rfl (val_bool (decide_eq_false (fun k => by omega)).symm))
      · rw [if_neg (by omega)]
        exact calls_eq (sent_yes i s h v n w hk hn (by omega) (by omega) _ rfl (sent_bd hk hn.1 (by omega))) (val_pair rfl (val_bool (decide_eq_true ⟨hk, by omega, by omega⟩).symm))
  · rw [if_neg hk]
    exact calls_eq (sent_no i s h v n w hk hn) (val_pair rfl (val_bool (decide_eq_false (fun k => hk k.1)).symm))

set_option maxHeartbeats 1000000 in
theorem rsent_no (i s h v n : Int) (w : World) (hk : ¬ okC i s h v) (hn : 0 ≤ n ∧ n ≤ 18446744073709551615) :
    Calls Try.prog 16 #[.agg #[.int .i64 i, .int .i64 s, .int .i64 h, .int .i64 v], .int .u64 n] w fun e w' => e = .returned (.tuple #[zeroC, .bool false]) ∧ Ext w w' := by
  have hss := cell_set_same
  have H1 := hid (fun w => calls_eq (rmay_any i s h v w) (val_bool (decide_eq_false hk)))
  clear hk
  go_enter Try.func16, Try.ntmps16
  go_wp2_with (go_at_call 8; ((with_reducible refine (H1.out _).mono ?_); rintro e w1 ⟨rfl, hb1⟩; obtain ⟨hc1, hf1⟩ := hb1.bcell; have k3 := hb1.cell (p := ⟨w.heap.size, 3, none⟩) (v := .int .i64 v) (by simp)))
  all_goals refine bodyPost_ret (v := .tuple #[zeroC, .bool false]) (by simp [results, Try.results16, hc1, hf1, hss, k3, go_sem, zeroC, clV]) rfl ⟨rfl, ?_⟩
  all_goals (repeat (refine Ext.setCell ?_ (by simp) _))
  all_goals exact (((Ext.refl w).alloc _).alloc _).trans hb1

set_option maxHeartbeats 1000000 in
theorem rsent_neg (i s h v n : Int) (w : World) (hk : okC i s h v) (hn : 0 ≤ n ∧ n ≤ 18446744073709551615) (hv : v < 0) :
    Calls Try.prog 16 #[.agg #[.int .i64 i, .int .i64 s, .int .i64 h, .int .i64 v], .int .u64 n] w fun e w' => e = .returned (.tuple #[clV i s h v, .bool false]) ∧ Ext w w' := by
  have hss := cell_set_same
  have H1 := hid (fun w => calls_eq (rmay_any i s h v w) (val_bool (decide_eq_true hk)))
  have e1 : decide (v < 0) = true := by simpa using hv
  clear hk
  go_enter Try.func16, Try.ntmps16
  go_wp2_with (go_at_call 8; ((with_reducible refine (H1.out _).mono ?_); rintro e w1 ⟨rfl, hb1⟩; obtain ⟨hc1, hf1⟩ := hb1.bcell; have k3 := hb1.cell (p := ⟨w.heap.size, 3, none⟩) (v := .int .i64 v) (by simp)))
  all_goals refine bodyPost_ret (v := .tuple #[clV i s h v, .bool false]) (by simp [results, Try.results16, hc1, hf1, hss, k3, go_sem, zeroC, clV]) rfl ⟨rfl, ?_⟩
  all_goals (repeat (refine Ext.setCell ?_ (by simp) _))
  all_goals exact (((Ext.refl w).alloc _).alloc _).trans hb1

set_option maxHeartbeats 1000000 in
theorem rsent_long (i s h v n : Int) (w : World) (hk : okC i s h v) (hn : 0 ≤ n ∧ n ≤ 18446744073709551615) (hv : 0 ≤ v) (hl : 65535 < n) :
    Calls Try.prog 16 #[.agg #[.int .i64 i, .int .i64 s, .int .i64 h, .int .i64 v], .int .u64 n] w fun e w' => e = .returned (.tuple #[clV i s h v, .bool false]) ∧ Ext w w' := by
  have hss := cell_set_same
  have H1 := hid (fun w => calls_eq (rmay_any i s h v w) (val_bool (decide_eq_true hk)))
  have e1 : decide (v < 0) = false := by simpa using hv
  have e2 : decide (65535 < n) = true := by simpa using hl
  clear hk
  go_enter Try.func16, Try.ntmps16
  go_wp2_with (go_at_call 8; ((with_reducible refine (H1.out _).mono ?_); rintro e w1 ⟨rfl, hb1⟩; obtain ⟨hc1, hf1⟩ := hb1.bcell; have k3 := hb1.cell (p := ⟨w.heap.size, 3, none⟩) (v := .int .i64 v) (by simp)))
  all_goals refine bodyPost_ret (v := .tuple #[clV i s h v, .bool false]) (by simp [results, Try.results16, hc1, hf1, hss, k3, go_sem, zeroC, clV]) rfl ⟨rfl, ?_⟩
  all_goals (repeat (refine Ext.setCell ?_ (by simp) _))
  all_goals exact (((Ext.refl w).alloc _).alloc _).trans hb1

set_option maxHeartbeats 1000000 in
theorem rsent_yes (i s h v n : Int) (w : World) (hk : okC i s h v) (hn : 0 ≤ n ∧ n ≤ 18446744073709551615) (hv : 0 ≤ v) (hl : n ≤ 65535) (m : Int) (hm : s * n = m) (bm : 0 ≤ m ∧ m ≤ 68718428160) :
    Calls Try.prog 16 #[.agg #[.int .i64 i, .int .i64 s, .int .i64 h, .int .i64 v], .int .u64 n] w fun e w' => e = .returned (.tuple #[clV i s h (v - m), .bool true]) ∧ Ext w w' := by
  have hss := cell_set_same
  have H1 := hid (fun w => calls_eq (rmay_any i s h v w) (val_bool (decide_eq_true hk)))
  have e1 : decide (v < 0) = false := by simpa using hv
  have e2 : decide (65535 < n) = false := by simpa using hl
  obtain ⟨b1, b2, b3, b4⟩ := okC_bd hk
  clear hk
  go_enter Try.func16, Try.ntmps16
  go_wp2_with (go_at_call 8; ((with_reducible refine (H1.out _).mono ?_); rintro e w1 ⟨rfl, hb1⟩; obtain ⟨hc1, hf1⟩ := hb1.bcell; have k3 := hb1.cell (p := ⟨w.heap.size, 3, none⟩) (v := .int .i64 v) (by simp)))
  all_goals refine bodyPost_ret (v := .tuple #[clV i s h (v - m), .bool true]) (by simp [results, Try.results16, hc1, hf1, hss, k3, go_sem, zeroC, clV]) rfl ⟨rfl, ?_⟩
  all_goals (repeat (refine Ext.setCell ?_ (by simp) _))
  all_goals exact (((Ext.refl w).alloc _).alloc _).trans hb1

theorem rsent_any (i s h v n : Int) (w : World) (hn : 0 ≤ n ∧ n ≤ 18446744073709551615) :
    Calls Try.prog 16 #[.agg #[.int .i64 i, .int .i64 s, .int .i64 h, .int .i64 v], .int .u64 n] w fun e w' => e = .returned (.tuple #[sentV i s h v n, .bool (sentB i s h v n)]) ∧ Ext w w' := by
  unfold sentV sentB
  by_cases hk : okC i s h v
  · rw [if_pos hk]
    by_cases hv : v < 0
    · rw [if_pos (Or.inl hv)]
      exact calls_eq (rsent_neg i s h v n w hk hn hv) (val_pair rfl (val_bool (decide_eq_false (fun k => by omega)).symm))
    · by_cases hl : 65535 < n
      · rw [if_pos (Or.inr hl)]
        exact calls_eq (rsent_long i s h v n w hk hn (by omega) hl) (val_pair rfl (val_bool (decide_eq_false (fun k => by omega)).symm))
      · rw [if_neg (by omega)]
        exact calls_eq (rsent_yes i s h v n w hk hn (by omega) (by omega) _ rfl (sent_bd hk hn.1 (by omega))) (val_pair rfl (val_bool (decide_eq_true ⟨hk, by omega, by omega⟩).symm))
  · rw [if_neg hk]
    exact calls_eq (rsent_no i s h v n w hk hn) (val_pair rfl (val_bool (decide_eq_false (fun k => hk k.1)).symm))


set_option maxHeartbeats 1000000 in
theorem wait_zero (i s h v : Int) (w : World) (hk : ¬ (okC i s h v ∧ v < 0)) :
    Calls Try.prog 12 #[.agg #[.int .i64 i, .int .i64 s, .int .i64 h, .int .i64 v]] w fun e w' => e = .returned (.int .u64 0) ∧ Ext w w' := by
  by_cases hok : okC i s h v
  · have H1 := hid (fun w => calls_eq (check_any i s h v w) (val_int (chk_yes i s h v hok).symm))
    have e1 : decide (0 ≤ v) = true := by simp; exact Int.not_lt.1 (fun g => hk ⟨hok, g⟩)
    clear hk hok
    go_enter Try.func12, Try.ntmps12
    go_wp2_with (go_at_call 9; ((with_reducible refine (H1.out _).mono ?_); rintro e w1 ⟨rfl, hb1⟩; obtain ⟨hc1, hf1⟩ := hb1.bcell))
    go_ret
    exact ⟨rfl, ((Ext.refl w).alloc _).trans hb1⟩
  · have H1 := hid (fun w => calls_eq (check_any i s h v w) (val_int (chk_no i s h v hok).symm))
    clear hk hok
    go_enter Try.func12, Try.ntmps12
    go_wp2_with (go_at_call 9; ((with_reducible refine (H1.out _).mono ?_); rintro e w1 ⟨rfl, hb1⟩; obtain ⟨hc1, hf1⟩ := hb1.bcell))
    go_ret
    exact ⟨rfl, ((Ext.refl w).alloc _).trans hb1⟩
set_option maxHeartbeats 1000000 in
theorem wait_some (i s h v : Int) (w : World) (hok : okC i s h v) (hv : v < 0) :
    Calls Try.prog 12 #[.agg #[.int .i64 i, .int .i64 s, .int .i64 h, .int .i64 v]] w fun e w' => e = .returned (.int .u64 (waitC i v)) ∧ Ext w w' := by
  have H1 := hid (fun w => calls_eq (check_any i s h v w) (val_int (chk_yes i s h v hok).symm))
  have e1 : decide (0 ≤ v) = false := by simpa using hv
  obtain ⟨b1, b2, b3, b4⟩ := okC_bd hok
  have hcb := ceil_bd (-v) i b1.1 (by omega)
  obtain ⟨q, hq⟩ : ∃ q, (-v + i - 1) / i = q := ⟨_, rfl⟩
  rw [hq] at hcb
  have bq : 0 ≤ q ∧ q ≤ 1099511627776 := by omega
  have HQ : Hid (waitC i v = q) := hq
  clear hok hcb
  go_enter Try.func12, Try.ntmps12
  go_wp2_with (go_at_call 9; ((with_reducible refine (H1.out _).mono ?_); rintro e w1 ⟨rfl, hb1⟩; obtain ⟨hc1, hf1⟩ := hb1.bcell))
  go_ret
  exact ⟨ret_int HQ.out.symm, ((Ext.refl w).alloc _).trans hb1⟩
set_option maxHeartbeats 1000000 in
theorem rwait_zero (i s h v : Int) (w : World) (hk : ¬ (okC i s h v ∧ v < 0)) :
    Calls Try.prog 13 #[.agg #[.int .i64 i, .int .i64 s, .int .i64 h, .int .i64 v]] w fun e w' => e = .returned (.int .u64 0) ∧ Ext w w' := by
  by_cases hok : okC i s h v
  · have H1 := hid (fun w => calls_eq (rmay_any i s h v w) (val_bool (decide_eq_true hok)))
    have e1 : decide (0 ≤ v) = true := by simp; exact Int.not_lt.1 (fun g => hk ⟨hok, g⟩)
    clear hk hok
    go_enter Try.func13, Try.ntmps13
    go_wp2_with (go_at_call 8; ((with_reducible refine (H1.out _).mono ?_); rintro e w1 ⟨rfl, hb1⟩; obtain ⟨hc1, hf1⟩ := hb1.bcell))
    go_ret
    exact ⟨rfl, ((Ext.refl w).alloc _).trans hb1⟩
  · have H1 := hid (fun w => calls_eq (rmay_any i s h v w) (val_bool (decide_eq_false hok)))
    clear hk hok
    go_enter Try.func13, Try.ntmps13
    go_wp2_with (go_at_call 8; ((with_reducible refine (H1.out _).mono ?_); rintro e w1 ⟨rfl, hb1⟩; obtain ⟨hc1, hf1⟩ := hb1.bcell))
    go_ret
    exact ⟨rfl, ((Ext.refl w).alloc _).trans hb1⟩
set_option maxHeartbeats 1000000 in
theorem rwait_some (i s h v : Int) (w : World) (hok : okC i s h v) (hv : v < 0) :
    Calls Try.prog 13 #[.agg #[.int .i64 i, .int .i64 s, .int .i64 h, .int .i64 v]] w fun e w' => e = .returned (.int .u64 (waitC i v)) ∧ Ext w w' := by
  have H1 := hid (fun w => calls_eq (rmay_any i s h v w) (val_bool (decide_eq_true hok)))
  have e1 : decide (0 ≤ v) = false := by simpa using hv
  obtain ⟨b1, b2, b3, b4⟩ := okC_bd hok
  have hd : waitC i v = _ := div_ceil (-v) i b1.1 (by omega)
  have hb0 : 0 ≤ -v / i ∧ -v / i ≤ -v := ⟨Int.ediv_nonneg (by omega) (by omega), Int.ediv_le_self _ (by omega)⟩
  obtain ⟨q, hq⟩ : ∃ q, -v / i = q := ⟨_, rfl⟩
  rw [hq] at hd hb0
  obtain ⟨m, hm⟩ : ∃ m, q * i = m := ⟨_, rfl⟩
  have hm0 : 0 ≤ m ∧ m ≤ -v := by
    rw [← hm, ← hq]
    exact ⟨Int.mul_nonneg (by omega) (by omega), Int.ediv_mul_le _ (by omega)⟩
  rw [hm] at hd
  have hq2 : -(v.tdiv i) = q := by rw [← Int.neg_tdiv, Int.tdiv_eq_ediv_of_nonneg (by omega)]; exact hq
  have bq : 0 ≤ q ∧ q ≤ 1099511627776 := by omega
  by_cases hc : m < -v
  · have HQ : Hid (waitC i v = q + 1) := by show _ = _; rw [hd, if_pos hc]
    have e2 : decide (m < -v) = true := by simpa using hc
    clear hok hd hb0 hc
    go_enter Try.func13, Try.ntmps13
    go_wp2_with (go_at_call 8; ((with_reducible refine (H1.out _).mono ?_); rintro e w1 ⟨rfl, hb1⟩; obtain ⟨hc1, hf1⟩ := hb1.bcell))
    go_ret
    exact ⟨ret_int HQ.out.symm, ((Ext.refl w).alloc _).trans hb1⟩
  · have HQ : Hid (waitC i v = q) := by show _ = _; rw [hd, if_neg hc]
    have e2 : decide (m < -v) = false := by simpa using hc
    clear hok hd hb0 hc
    go_enter Try.func13, Try.ntmps13
    go_wp2_with (go_at_call 8; ((with_reducible refine (H1.out _).mono ?_); rintro e w1 ⟨rfl, hb1⟩; obtain ⟨hc1, hf1⟩ := hb1.bcell))
    go_ret
    exact ⟨ret_int HQ.out.symm, ((Ext.refl w).alloc _).trans hb1⟩

def waitV (i s h v : Int) : Int := if okC i s h v ∧ v < 0 then waitC i v else 0
theorem wait_any (i s h v : Int) (w : World) :
    Calls Try.prog 12 #[.agg #[.int .i64 i, .int .i64 s, .int .i64 h, .int .i64 v]] w fun e w' => e = .returned (.int .u64 (waitV i s h v)) ∧ Ext w w' := by
  by_cases hk : okC i s h v ∧ v < 0
  · rw [waitV, if_pos hk]; exact wait_some i s h v w hk.1 hk.2
  · rw [waitV, if_neg hk]; exact wait_zero i s h v w hk
theorem rwait_any (i s h v : Int) (w : World) :
    Calls Try.prog 13 #[.agg #[.int .i64 i, .int .i64 s, .int .i64 h, .int .i64 v]] w fun e w' => e = .returned (.int .u64 (waitV i s h v)) ∧ Ext w w' := by
  by_cases hk : okC i s h v ∧ v < 0
  · rw [waitV, if_pos hk]; exact rwait_some i s h v w hk.1 hk.2
  · rw [waitV, if_neg hk]; exact rwait_zero i s h v w hk

def mayB (i s h v : Int) : Bool := decide (okC i s h v ∧ 0 ≤ v)
set_option maxHeartbeats 1000000 in
theorem may_any (i s h v : Int) (w : World) :
    Calls Try.prog 14 #[.agg #[.int .i64 i, .int .i64 s, .int .i64 h, .int .i64 v]] w fun e w' => e = .returned (.bool (mayB i s h v)) ∧ Ext w w' := by
  by_cases hok : okC i s h v
  · have H1 := hid (fun w => calls_eq (check_any i s h v w) (val_int (chk_yes i s h v hok).symm))
    by_cases hv : 0 ≤ v
    · have e1 : decide (0 ≤ v) = true := by simpa using hv
      have HM : Hid (mayB i s h v = true) := decide_eq_true ⟨hok, hv⟩
      clear hok
      go_enter Try.func14, Try.ntmps14
      go_wp2_with (go_at_call 9; ((with_reducible refine (H1.out _).mono ?_); rintro e w1 ⟨rfl, hb1⟩; obtain ⟨hc1, hf1⟩ := hb1.bcell))
      go_ret
      exact ⟨ret_bool HM.out.symm, ((Ext.refl w).alloc _).trans hb1⟩
    · have e1 : decide (0 ≤ v) = false := by simpa using hv
      have HM : Hid (mayB i s h v = false) := decide_eq_false (fun k => hv k.2)
      clear hok
      go_enter Try.func14, Try.ntmps14
      go_wp2_with (go_at_call 9; ((with_reducible refine (H1.out _).mono ?_); rintro e w1 ⟨rfl, hb1⟩; obtain ⟨hc1, hf1⟩ := hb1.bcell))
      go_ret
      exact ⟨ret_bool HM.out.symm, ((Ext.refl w).alloc _).trans hb1⟩
  · have H1 := hid (fun w => calls_eq (check_any i s h v w) (val_int (chk_no i s h v hok).symm))
    have HM : Hid (mayB i s h v = false) := decide_eq_false (fun k => hok k.1)
    clear hok
    go_enter Try.func14, Try.ntmps14
    go_wp2_with (go_at_call 9; ((with_reducible refine (H1.out _).mono ?_); rintro e w1 ⟨rfl, hb1⟩; obtain ⟨hc1, hf1⟩ := hb1.bcell))
    go_ret
    exact ⟨ret_bool HM.out.symm, ((Ext.refl w).alloc _).trans hb1⟩

set_option maxHeartbeats 1000000 in
theorem new_yes (i s h : Int) (w : World) (hok : okC i s h 0) :
    Calls Try.prog 7 #[.int .i64 i, .int .i64 s, .int .i64 h] w fun e w' => e = .returned (.tuple #[clV i s h 0, .int .i64 0]) ∧ Ext w w' := by
  have H1 := hid (fun w => calls_eq (check_any i s h 0 w) (val_int (chk_yes i s h 0 hok).symm))
  have hss := cell_set_same
  clear hok
  go_enter Try.func7, Try.ntmps7
  go_wp2_with (go_at_call 9; ((with_reducible refine (H1.out _).mono ?_); rintro e w1 ⟨rfl, hb1⟩; obtain ⟨hc1, hf1⟩ := hb1.bcell))
  all_goals refine bodyPost_ret (v := .tuple #[clV i s h 0, .int .i64 0]) (by simp [results, Try.results7, hc1, hf1, hss, go_sem, clV]) rfl ⟨rfl, ?_⟩
  all_goals (repeat (refine Ext.setCell ?_ (by simp) _))
  all_goals exact (((Ext.refl w).alloc _).alloc _).trans hb1
set_option maxHeartbeats 1000000 in
theorem new_no (i s h : Int) (w : World) (hok : ¬ okC i s h 0) :
    Calls Try.prog 7 #[.int .i64 i, .int .i64 s, .int .i64 h] w fun e w' => e = .returned (.tuple #[zeroC, .int .i64 6]) ∧ Ext w w' := by
  have H1 := hid (fun w => calls_eq (check_any i s h 0 w) (val_int (chk_no i s h 0 hok).symm))
  have hss := cell_set_same
  clear hok
  go_enter Try.func7, Try.ntmps7
  go_wp2_with (go_at_call 9; ((with_reducible refine (H1.out _).mono ?_); rintro e w1 ⟨rfl, hb1⟩; obtain ⟨hc1, hf1⟩ := hb1.bcell))
  all_goals refine bodyPost_ret (v := .tuple #[zeroC, .int .i64 6]) (by simp [results, Try.results7, hc1, hf1, hss, go_sem, zeroC]) rfl ⟨rfl, ?_⟩
  all_goals (repeat (refine Ext.setCell ?_ (by simp) _))
  all_goals exact (((Ext.refl w).alloc _).alloc _).trans hb1

/-- Tick, both of them, in one form. -/
def tickV (i s h v t : Int) (wt : Bool) : Value := if okC i s h v then clV i s h (tickH i h v t wt) else zeroC
theorem tick_any (i s h v t : Int) (wt : Bool) (w : World) (ht : 0 ≤ t ∧ t ≤ 18446744073709551615) :
    Calls Try.prog 10 #[.agg #[.int .i64 i, .int .i64 s, .int .i64 h, .int .i64 v], .int .u64 t, .bool wt] w fun e w' => e = .returned (tickV i s h v t wt) ∧ Ext w w' := by
  by_cases hk : okC i s h v
  · rw [tickV, if_pos hk]; exact tick_yes i s h v t wt w hk ht
  · rw [tickV, if_neg hk]; exact tick_no i s h v t wt w hk
theorem rtick_any (i s h v t : Int) (wt : Bool) (w : World) (ht : 0 ≤ t ∧ t ≤ 18446744073709551615) :
    Calls Try.prog 11 #[.agg #[.int .i64 i, .int .i64 s, .int .i64 h, .int .i64 v], .int .u64 t, .bool wt] w fun e w' => e = .returned (tickV i s h v t wt) ∧ Ext w w' := by
  by_cases hk : okC i s h v
  · rw [tickV, if_pos hk]; exact rtick_yes i s h v t wt w hk ht
  · rw [tickV, if_neg hk]; exact rtick_no i s h v t wt w hk
end Go.Proofs.Ytpldacdgifekmaa
