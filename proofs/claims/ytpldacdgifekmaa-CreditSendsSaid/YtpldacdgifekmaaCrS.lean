import Derived.Test.YtpldacdgifekmaaCrT
namespace Go.Proofs.Ytpldacdgifekmaa
set_option linter.unusedVariables false
set_option linter.unusedSimpArgs false
open Go.RowKit

theorem earn_min (i v bound t : Int) (hi : 1 ≤ i ∧ i ≤ 1048576) (hv : -1099511627776 ≤ v ∧ v ≤ bound) (hb : bound ≤ 1048576) (ht : 4398046511104 < t) :
    bound ≤ v + i * 4398046511104 ∧ earn i v bound t = bound := by
  have h1 : i * 4398046511104 ≥ 4398046511104 := by omega
  have h2 : i * 4398046511104 ≤ i * t := Int.mul_le_mul_of_nonneg_left (by omega) (by omega)
  refine ⟨by omega, ?_⟩
  unfold earn
  rw [if_pos (by omega)]

set_option maxHeartbeats 1000000 in
theorem rtick_no (i s h v t : Int) (wt : Bool) (w : World) (hk : ¬ okC i s h v) :
    Calls Try.prog 11 #[.agg #[.int .i64 i, .int .i64 s, .int .i64 h, .int .i64 v], .int .u64 t, .bool wt] w fun e w' => e = .returned zeroC ∧ Ext w w' := by
  have hss := cell_set_same
  have H1 := hid (fun w => calls_eq (rmay_any i s h v w) (val_bool (decide_eq_false hk)))
  clear hk
  go_enter Try.func11, Try.ntmps11
  go_wp2_with (go_at_call 8; ((with_reducible refine (H1.out _).mono ?_); rintro e w1 ⟨rfl, hb1⟩; obtain ⟨hc1, hf1⟩ := hb1.bcell))
  all_goals refine bodyPost_ret (v := .agg #[.int .i64 0, .int .i64 0, .int .i64 0, .int .i64 0]) (by simp [results, Try.results11, hc1, hf1, hss, go_sem]) rfl ⟨rfl, ?_⟩
  all_goals (repeat (refine Ext.setCell ?_ (by simp) _))
  all_goals exact (((Ext.refl w).alloc _).alloc _).trans hb1

set_option maxHeartbeats 4000000 in
theorem rtick_yes (i s h v t : Int) (wt : Bool) (w : World) (hk : okC i s h v) (ht : 0 ≤ t ∧ t ≤ 18446744073709551615) :
    Calls Try.prog 11 #[.agg #[.int .i64 i, .int .i64 s, .int .i64 h, .int .i64 v], .int .u64 t, .bool wt] w fun e w' => e = .returned (clV i s h (tickH i h v t wt)) ∧ Ext w w' := by
  have hss := cell_set_same
  obtain ⟨b1, b2, b3, b4⟩ := okC_bd hk
  have H1 := hid (fun w => calls_eq (rmay_any i s h v w) (val_bool (decide_eq_true hk)))
  clear hk
  by_cases hz : wt = false ∧ 0 ≤ v
  · obtain ⟨rfl, hv⟩ := hz
    have e1 : decide (0 ≤ v) = true := by simpa using hv
    go_enter Try.func11, Try.ntmps11
    go_wp2_with (go_at_call 8; ((with_reducible refine (H1.out _).mono ?_); rintro e w1 ⟨rfl, hb1⟩; obtain ⟨hc1, hf1⟩ := hb1.bcell; have k3 := hb1.cell (p := ⟨w.heap.size, 3, none⟩) (v := .int .i64 v) (by simp)))
    all_goals refine bodyPost_ret (v := .agg #[.int .i64 i, .int .i64 s, .int .i64 h, .int .i64 0]) (by simp [results, Try.results11, hc1, hf1, hss, go_sem]) rfl ⟨by rw [tickH, if_neg (by decide), if_neg (by omega)]; rfl, ?_⟩
    all_goals (repeat (refine Ext.setCell ?_ (by simp) _))
    all_goals exact (((Ext.refl w).alloc _).alloc _).trans hb1
  · cases wt with
    | true =>
      have hbd : tickH i h v t true = earn i v h t := by rw [tickH, if_pos rfl]
      clear hz
      by_cases htt : 4398046511104 < t
      · obtain ⟨g1, g2⟩ := earn_min i v h t b1 ⟨b4.1, b4.2⟩ b3.2 htt
        rw [g2] at hbd
        have e1 : decide (4398046511104 < t) = true := by simpa using htt
        obtain ⟨m, hm⟩ : ∃ m, i * 4398046511104 = m := ⟨_, rfl⟩
        have bm : 0 ≤ m ∧ m ≤ 4611686018427387904 := by omega
        rw [hm] at g1
        clear g2
        by_cases hc : h < v + m
        · have HX := hid hbd
          have e2 : decide (h < v + m) = true := by simpa using hc
          clear hbd g1 hc htt
          go_enter Try.func11, Try.ntmps11
          go_wp2_with (go_at_call 8; ((with_reducible refine (H1.out _).mono ?_); rintro e w1 ⟨rfl, hb1⟩; obtain ⟨hc1, hf1⟩ := hb1.bcell; have k3 := hb1.cell (p := ⟨w.heap.size, 3, none⟩) (v := .int .i64 v) (by simp)))
          all_goals refine bodyPost_ret (v := .agg #[.int .i64 i, .int .i64 s, .int .i64 h, .int .i64 (h)]) (by simp [results, Try.results11, hc1, hf1, hss, go_sem]) rfl ⟨by rw [HX.out]; rfl, ?_⟩
          all_goals (repeat (refine Ext.setCell ?_ (by simp) _))
          all_goals exact (((Ext.refl w).alloc _).alloc _).trans hb1
        · have HX : Hid (tickH i h v t true = v + m) := by show _ = _; omega
          have e2 : decide (h < v + m) = false := by simpa using hc
          clear hbd g1 hc htt
          go_enter Try.func11, Try.ntmps11
          go_wp2_with (go_at_call 8; ((with_reducible refine (H1.out _).mono ?_); rintro e w1 ⟨rfl, hb1⟩; obtain ⟨hc1, hf1⟩ := hb1.bcell; have k3 := hb1.cell (p := ⟨w.heap.size, 3, none⟩) (v := .int .i64 v) (by simp)))
          all_goals refine bodyPost_ret (v := .agg #[.int .i64 i, .int .i64 s, .int .i64 h, .int .i64 (v + m)]) (by simp [results, Try.results11, hc1, hf1, hss, go_sem]) rfl ⟨by rw [HX.out]; rfl, ?_⟩
          all_goals (repeat (refine Ext.setCell ?_ (by simp) _))
          all_goals exact (((Ext.refl w).alloc _).alloc _).trans hb1
      · have e1 : decide (4398046511104 < t) = false := by simpa using htt
        obtain ⟨m, hm⟩ : ∃ m, i * t = m := ⟨_, rfl⟩
        have bm : 0 ≤ m ∧ m ≤ 4611686018427387904 := by
          rw [← hm]
          refine ⟨Int.mul_nonneg (by omega) ht.1, ?_⟩
          have h1 : i * t ≤ 1048576 * t := Int.mul_le_mul_of_nonneg_right b1.2 ht.1
          omega
        unfold earn at hbd
        rw [hm] at hbd
        by_cases hc : h < v + m
        · have HX : Hid (tickH i h v t true = h) := by show _ = _; rw [hbd, if_pos (by omega)]
          have e2 : decide (h < v + m) = true := by simpa using hc
          have htl : t ≤ 4398046511104 := by omega
          clear hbd hc htt
          go_enter Try.func11, Try.ntmps11
          go_wp2_with (go_at_call 8; ((with_reducible refine (H1.out _).mono ?_); rintro e w1 ⟨rfl, hb1⟩; obtain ⟨hc1, hf1⟩ := hb1.bcell; have k3 := hb1.cell (p := ⟨w.heap.size, 3, none⟩) (v := .int .i64 v) (by simp)))
          all_goals refine bodyPost_ret (v := .agg #[.int .i64 i, .int .i64 s, .int .i64 h, .int .i64 (h)]) (by simp [results, Try.results11, hc1, hf1, hss, go_sem]) rfl ⟨by rw [HX.out]; rfl, ?_⟩
          all_goals (repeat (refine Ext.setCell ?_ (by simp) _))
          all_goals exact (((Ext.refl w).alloc _).alloc _).trans hb1
        · have HX : Hid (tickH i h v t true = v + m) := by show _ = _; rw [hbd]; split <;> omega
          have e2 : decide (h < v + m) = false := by simpa using hc
          have htl : t ≤ 4398046511104 := by omega
          clear hbd hc htt
          go_enter Try.func11, Try.ntmps11
          go_wp2_with (go_at_call 8; ((with_reducible refine (H1.out _).mono ?_); rintro e w1 ⟨rfl, hb1⟩; obtain ⟨hc1, hf1⟩ := hb1.bcell; have k3 := hb1.cell (p := ⟨w.heap.size, 3, none⟩) (v := .int .i64 v) (by simp)))
          all_goals refine bodyPost_ret (v := .agg #[.int .i64 i, .int .i64 s, .int .i64 h, .int .i64 (v + m)]) (by simp [results, Try.results11, hc1, hf1, hss, go_sem]) rfl ⟨by rw [HX.out]; rfl, ?_⟩
          all_goals (repeat (refine Ext.setCell ?_ (by simp) _))
          all_goals exact (((Ext.refl w).alloc _).alloc _).trans hb1
    | false =>
      have hv0 : v < 0 := by have := hz; simp at this; omega
      have e0 : decide (0 ≤ v) = false := by simpa using hv0
      have hbd : tickH i h v t false = earn i v 0 t := by rw [tickH, if_neg (by decide), if_pos hv0]
      clear hz
      by_cases htt : 4398046511104 < t
      · obtain ⟨g1, g2⟩ := earn_min i v 0 t b1 ⟨b4.1, (by omega)⟩ (by omega) htt
        rw [g2] at hbd
        have e1 : decide (4398046511104 < t) = true := by simpa using htt
        obtain ⟨m, hm⟩ : ∃ m, i * 4398046511104 = m := ⟨_, rfl⟩
        have bm : 0 ≤ m ∧ m ≤ 4611686018427387904 := by omega
        rw [hm] at g1
        clear g2
        by_cases hc : 0 < v + m
        · have HX := hid hbd
          have e2 : decide (0 < v + m) = true := by simpa using hc
          clear hbd g1 hc htt
          go_enter Try.func11, Try.ntmps11
          go_wp2_with (go_at_call 8; ((with_reducible refine (H1.out _).mono ?_); rintro e w1 ⟨rfl, hb1⟩; obtain ⟨hc1, hf1⟩ := hb1.bcell; have k3 := hb1.cell (p := ⟨w.heap.size, 3, none⟩) (v := .int .i64 v) (by simp)))
          all_goals refine bodyPost_ret (v := .agg #[.int .i64 i, .int .i64 s, .int .i64 h, .int .i64 (0)]) (by simp [results, Try.results11, hc1, hf1, hss, go_sem]) rfl ⟨by rw [HX.out]; rfl, ?_⟩
          all_goals (repeat (refine Ext.setCell ?_ (by simp) _))
          all_goals exact (((Ext.refl w).alloc _).alloc _).trans hb1
        · have HX : Hid (tickH i h v t false = v + m) := by show _ = _; omega
          have e2 : decide (0 < v + m) = false := by simpa using hc
          clear hbd g1 hc htt
          go_enter Try.func11, Try.ntmps11
          go_wp2_with (go_at_call 8; ((with_reducible refine (H1.out _).mono ?_); rintro e w1 ⟨rfl, hb1⟩; obtain ⟨hc1, hf1⟩ := hb1.bcell; have k3 := hb1.cell (p := ⟨w.heap.size, 3, none⟩) (v := .int .i64 v) (by simp)))
          all_goals refine bodyPost_ret (v := .agg #[.int .i64 i, .int .i64 s, .int .i64 h, .int .i64 (v + m)]) (by simp [results, Try.results11, hc1, hf1, hss, go_sem]) rfl ⟨by rw [HX.out]; rfl, ?_⟩
          all_goals (repeat (refine Ext.setCell ?_ (by simp) _))
          all_goals exact (((Ext.refl w).alloc _).alloc _).trans hb1
      · have e1 : decide (4398046511104 < t) = false := by simpa using htt
        obtain ⟨m, hm⟩ : ∃ m, i * t = m := ⟨_, rfl⟩
        have bm : 0 ≤ m ∧ m ≤ 4611686018427387904 := by
          rw [← hm]
          refine ⟨Int.mul_nonneg (by omega) ht.1, ?_⟩
          have h1 : i * t ≤ 1048576 * t := Int.mul_le_mul_of_nonneg_right b1.2 ht.1
          omega
        unfold earn at hbd
        rw [hm] at hbd
        by_cases hc : 0 < v + m
        · have HX : Hid (tickH i h v t false = 0) := by show _ = _; rw [hbd, if_pos (by omega)]
          have e2 : decide (0 < v + m) = true := by simpa using hc
          have htl : t ≤ 4398046511104 := by omega
          clear hbd hc htt
          go_enter Try.func11, Try.ntmps11
          go_wp2_with (go_at_call 8; ((with_reducible refine (H1.out _).mono ?_); rintro e w1 ⟨rfl, hb1⟩; obtain ⟨hc1, hf1⟩ := hb1.bcell; have k3 := hb1.cell (p := ⟨w.heap.size, 3, none⟩) (v := .int .i64 v) (by simp)))
          all_goals refine bodyPost_ret (v := .agg #[.int .i64 i, .int .i64 s, .int .i64 h, .int .i64 (0)]) (by simp [results, Try.results11, hc1, hf1, hss, go_sem]) rfl ⟨by rw [HX.out]; rfl, ?_⟩
          all_goals (repeat (refine Ext.setCell ?_ (by simp) _))
          all_goals exact (((Ext.refl w).alloc _).alloc _).trans hb1
        · have HX : Hid (tickH i h v t false = v + m) := by show _ = _; rw [hbd]; split <;> omega
          have e2 : decide (0 < v + m) = false := by simpa using hc
          have htl : t ≤ 4398046511104 := by omega
          clear hbd hc htt
          go_enter Try.func11, Try.ntmps11
          go_wp2_with (go_at_call 8; ((with_reducible refine (H1.out _).mono ?_); rintro e w1 ⟨rfl, hb1⟩; obtain ⟨hc1, hf1⟩ := hb1.bcell; have k3 := hb1.cell (p := ⟨w.heap.size, 3, none⟩) (v := .int .i64 v) (by simp)))
          all_goals refine bodyPost_ret (v := .agg #[.int .i64 i, .int .i64 s, .int .i64 h, .int .i64 (v + m)]) (by simp [results, Try.results11, hc1, hf1, hss, go_sem]) rfl ⟨by rw [HX.out]; rfl, ?_⟩
          all_goals (repeat (refine Ext.setCell ?_ (by simp) _))
          all_goals exact (((Ext.refl w).alloc _).alloc _).trans hb1
end Go.Proofs.Ytpldacdgifekmaa
