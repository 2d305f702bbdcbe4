import Derived.Test.YtlmeemilikladaaMtW
namespace Go.Proofs.Ytlmeemilikladaa
set_option linter.unusedVariables false
set_option linter.unusedSimpArgs false
open Go.RowKit

def zeroOne : Value := .agg #[.int .u64 0, .int .u64 0, .int .u64 0, .int .u64 0, .int .u64 0]
def zeroTwo : Value := .agg #[.int .u64 0, .int .u64 0, .int .u64 0, .int .u64 0, .int .u64 0, .int .u64 0]
def oneV (r n f a b : Int) : Value := .agg #[.int .u64 r, .int .u64 n, .int .u64 f, .int .u64 a, .int .u64 b]
def twoV (s q n f a b : Int) : Value := .agg #[.int .u64 s, .int .u64 q, .int .u64 n, .int .u64 f, .int .u64 a, .int .u64 b]

set_option maxHeartbeats 1000000 in
theorem colour1_bad (r n f a b x came : Int) (w : World) (hr : 0 ≤ r ∧ r ≤ 18446744073709551615) (hn : 0 ≤ n ∧ n ≤ 18446744073709551615) (hf : 0 ≤ f ∧ f ≤ 18446744073709551615) (ha : 0 ≤ a ∧ a ≤ 18446744073709551615) (hb : 0 ≤ b ∧ b ≤ 18446744073709551615) (hx : 0 ≤ x ∧ x ≤ 18446744073709551615) (hck : ckOne r n f a b ≠ 0) :
    Calls Try.prog 7 #[.agg #[.int .u64 r, .int .u64 n, .int .u64 f, .int .u64 a, .int .u64 b], .int .u64 x, .int .i64 came] w fun e w' =>
      e = .returned (.tuple #[zeroOne, .int .i64 3]) ∧ Ext w w' := by
  obtain ⟨c, hc⟩ : ∃ c, ckOne r n f a b = c := ⟨_, rfl⟩
  have H1 := hid (fun w => calls_eq (check1_any r n f a b w hr.1 hn.1 hf.1 ha.1 hb.1) (val_int hc))
  rw [hc] at hck
  have hcn : (c != 0) = true := by simpa using hck
  clear hc
  go_enter Try.func7, Try.ntmps7
  go_wp2_with (go_at_call 24; ((with_reducible refine (H1.out _).mono ?_); rintro e w1 ⟨rfl, hb1⟩; obtain ⟨hc1, hf1⟩ := hb1.bcell; have k3 := hb1.cell (p := ⟨w.heap.size, 3, none⟩) (v := .int .u64 a) (by simp); have k4 := hb1.cell (p := ⟨w.heap.size, 4, none⟩) (v := .int .u64 b) (by simp)))
  all_goals refine bodyPost_ret (v := .tuple #[zeroOne, .int .i64 3]) (by simp [results, Try.results7, hc1, hf1, go_sem, zeroOne]) rfl ⟨rfl, ?_⟩
  all_goals (repeat (refine Ext.setCell ?_ (by simp) _))
  all_goals exact (((Ext.refl w).alloc _).alloc _).trans hb1

set_option maxHeartbeats 1000000 in
theorem colour1_green (r n f a b x came : Int) (w : World) (hr : 0 ≤ r ∧ r ≤ 18446744073709551615) (hn : 0 ≤ n ∧ n ≤ 18446744073709551615) (hf : 0 ≤ f ∧ f ≤ 18446744073709551615) (ha : 0 ≤ a ∧ a ≤ 18446744073709551615) (hb : 0 ≤ b ∧ b ≤ 18446744073709551615) (hx : 0 ≤ x ∧ x ≤ 18446744073709551615) (hck : ckOne r n f a b = 0) (h1 : came ≠ 2 ∧ came ≠ 3) (h2 : x ≤ a) :
    Calls Try.prog 7 #[.agg #[.int .u64 r, .int .u64 n, .int .u64 f, .int .u64 a, .int .u64 b], .int .u64 x, .int .i64 came] w fun e w' =>
      e = .returned (.tuple #[oneV r n f (a - x) b, .int .i64 1]) ∧ Ext w w' := by
  have H1 := hid (fun w => calls_eq (check1_any r n f a b w hr.1 hn.1 hf.1 ha.1 hb.1) (val_int hck))
  clear hck
  have e1 : (came != 2) = true := by simpa using h1.1
  have e2 : (came != 3) = true := by simpa using h1.2
  have e3 : decide (x ≤ a) = true := by simpa using h2
  go_enter Try.func7, Try.ntmps7
  go_wp2_with (go_at_call 24; ((with_reducible refine (H1.out _).mono ?_); rintro e w1 ⟨rfl, hb1⟩; obtain ⟨hc1, hf1⟩ := hb1.bcell; have k3 := hb1.cell (p := ⟨w.heap.size, 3, none⟩) (v := .int .u64 a) (by simp); have k4 := hb1.cell (p := ⟨w.heap.size, 4, none⟩) (v := .int .u64 b) (by simp)))
  all_goals refine bodyPost_ret (v := .tuple #[oneV r n f (a - x) b, .int .i64 1]) (by simp [results, Try.results7, hc1, hf1, go_sem, oneV]) rfl ⟨rfl, ?_⟩
  all_goals (repeat (refine Ext.setCell ?_ (by simp) _))
  all_goals exact (((Ext.refl w).alloc _).alloc _).trans hb1

set_option maxHeartbeats 1000000 in
theorem colour1_yellow1 (r n f a b x came : Int) (w : World) (hr : 0 ≤ r ∧ r ≤ 18446744073709551615) (hn : 0 ≤ n ∧ n ≤ 18446744073709551615) (hf : 0 ≤ f ∧ f ≤ 18446744073709551615) (ha : 0 ≤ a ∧ a ≤ 18446744073709551615) (hb : 0 ≤ b ∧ b ≤ 18446744073709551615) (hx : 0 ≤ x ∧ x ≤ 18446744073709551615) (hck : ckOne r n f a b = 0) (h1 : came ≠ 2 ∧ came ≠ 3) (h2 : a < x) (h3 : x ≤ b) :
    Calls Try.prog 7 #[.agg #[.int .u64 r, .int .u64 n, .int .u64 f, .int .u64 a, .int .u64 b], .int .u64 x, .int .i64 came] w fun e w' =>
      e = .returned (.tuple #[oneV r n f a (b - x), .int .i64 2]) ∧ Ext w w' := by
  have H1 := hid (fun w => calls_eq (check1_any r n f a b w hr.1 hn.1 hf.1 ha.1 hb.1) (val_int hck))
  clear hck
  have e1 : (came != 2) = true := by simpa using h1.1
  have e2 : (came != 3) = true := by simpa using h1.2
  have e3 : decide (x ≤ a) = false := by simpa using h2
  have e4 : decide (x ≤ b) = true := by simpa using h3
  go_enter Try.func7, Try.ntmps7
  go_wp2_with (go_at_call 24; ((with_reducible refine (H1.out _).mono ?_); rintro e w1 ⟨rfl, hb1⟩; obtain ⟨hc1, hf1⟩ := hb1.bcell; have k3 := hb1.cell (p := ⟨w.heap.size, 3, none⟩) (v := .int .u64 a) (by simp); have k4 := hb1.cell (p := ⟨w.heap.size, 4, none⟩) (v := .int .u64 b) (by simp)))
  all_goals refine bodyPost_ret (v := .tuple #[oneV r n f a (b - x), .int .i64 2]) (by simp [results, Try.results7, hc1, hf1, go_sem, oneV]) rfl ⟨rfl, ?_⟩
  all_goals (repeat (refine Ext.setCell ?_ (by simp) _))
  all_goals exact (((Ext.refl w).alloc _).alloc _).trans hb1

set_option maxHeartbeats 1000000 in
theorem colour1_red1 (r n f a b x came : Int) (w : World) (hr : 0 ≤ r ∧ r ≤ 18446744073709551615) (hn : 0 ≤ n ∧ n ≤ 18446744073709551615) (hf : 0 ≤ f ∧ f ≤ 18446744073709551615) (ha : 0 ≤ a ∧ a ≤ 18446744073709551615) (hb : 0 ≤ b ∧ b ≤ 18446744073709551615) (hx : 0 ≤ x ∧ x ≤ 18446744073709551615) (hck : ckOne r n f a b = 0) (h1 : came ≠ 2 ∧ came ≠ 3) (h2 : a < x) (h3 : b < x) :
    Calls Try.prog 7 #[.agg #[.int .u64 r, .int .u64 n, .int .u64 f, .int .u64 a, .int .u64 b], .int .u64 x, .int .i64 came] w fun e w' =>
      e = .returned (.tuple #[oneV r n f a b, .int .i64 3]) ∧ Ext w w' := by
  have H1 := hid (fun w => calls_eq (check1_any r n f a b w hr.1 hn.1 hf.1 ha.1 hb.1) (val_int hck))
  clear hck
  have e1 : (came != 2) = true := by simpa using h1.1
  have e2 : (came != 3) = true := by simpa using h1.2
  have e3 : decide (x ≤ a) = false := by simpa using h2
  have e4 : decide (x ≤ b) = false := by simpa using h3
  go_enter Try.func7, Try.ntmps7
  go_wp2_with (go_at_call 24; ((with_reducible refine (H1.out _).mono ?_); rintro e w1 ⟨rfl, hb1⟩; obtain ⟨hc1, hf1⟩ := hb1.bcell; have k3 := hb1.cell (p := ⟨w.heap.size, 3, none⟩) (v := .int .u64 a) (by simp); have k4 := hb1.cell (p := ⟨w.heap.size, 4, none⟩) (v := .int .u64 b) (by simp)))
  all_goals refine bodyPost_ret (v := .tuple #[oneV r n f a b, .int .i64 3]) (by simp [results, Try.results7, hc1, hf1, go_sem, oneV]) rfl ⟨rfl, ?_⟩
  all_goals (repeat (refine Ext.setCell ?_ (by simp) _))
  all_goals exact (((Ext.refl w).alloc _).alloc _).trans hb1

set_option maxHeartbeats 1000000 in
theorem colour1_yellow2 (r n f a b x came : Int) (w : World) (hr : 0 ≤ r ∧ r ≤ 18446744073709551615) (hn : 0 ≤ n ∧ n ≤ 18446744073709551615) (hf : 0 ≤ f ∧ f ≤ 18446744073709551615) (ha : 0 ≤ a ∧ a ≤ 18446744073709551615) (hb : 0 ≤ b ∧ b ≤ 18446744073709551615) (hx : 0 ≤ x ∧ x ≤ 18446744073709551615) (hck : ckOne r n f a b = 0) (h1 : came = 2) (h3 : x ≤ b) :
    Calls Try.prog 7 #[.agg #[.int .u64 r, .int .u64 n, .int .u64 f, .int .u64 a, .int .u64 b], .int .u64 x, .int .i64 came] w fun e w' =>
      e = .returned (.tuple #[oneV r n f a (b - x), .int .i64 2]) ∧ Ext w w' := by
  have H1 := hid (fun w => calls_eq (check1_any r n f a b w hr.1 hn.1 hf.1 ha.1 hb.1) (val_int hck))
  clear hck
  subst h1
  have e4 : decide (x ≤ b) = true := by simpa using h3
  go_enter Try.func7, Try.ntmps7
  go_wp2_with (go_at_call 24; ((with_reducible refine (H1.out _).mono ?_); rintro e w1 ⟨rfl, hb1⟩; obtain ⟨hc1, hf1⟩ := hb1.bcell; have k3 := hb1.cell (p := ⟨w.heap.size, 3, none⟩) (v := .int .u64 a) (by simp); have k4 := hb1.cell (p := ⟨w.heap.size, 4, none⟩) (v := .int .u64 b) (by simp)))
  all_goals refine bodyPost_ret (v := .tuple #[oneV r n f a (b - x), .int .i64 2]) (by simp [results, Try.results7, hc1, hf1, go_sem, oneV]) rfl ⟨rfl, ?_⟩
  all_goals (repeat (refine Ext.setCell ?_ (by simp) _))
  all_goals exact (((Ext.refl w).alloc _).alloc _).trans hb1

set_option maxHeartbeats 1000000 in
theorem colour1_red2 (r n f a b x came : Int) (w : World) (hr : 0 ≤ r ∧ r ≤ 18446744073709551615) (hn : 0 ≤ n ∧ n ≤ 18446744073709551615) (hf : 0 ≤ f ∧ f ≤ 18446744073709551615) (ha : 0 ≤ a ∧ a ≤ 18446744073709551615) (hb : 0 ≤ b ∧ b ≤ 18446744073709551615) (hx : 0 ≤ x ∧ x ≤ 18446744073709551615) (hck : ckOne r n f a b = 0) (h1 : came = 2) (h3 : b < x) :
    Calls Try.prog 7 #[.agg #[.int .u64 r, .int .u64 n, .int .u64 f, .int .u64 a, .int .u64 b], .int .u64 x, .int .i64 came] w fun e w' =>
      e = .returned (.tuple #[oneV r n f a b, .int .i64 3]) ∧ Ext w w' := by
  have H1 := hid (fun w => calls_eq (check1_any r n f a b w hr.1 hn.1 hf.1 ha.1 hb.1) (val_int hck))
  clear hck
  subst h1
  have e4 : decide (x ≤ b) = false := by simpa using h3
  go_enter Try.func7, Try.ntmps7
  go_wp2_with (go_at_call 24; ((with_reducible refine (H1.out _).mono ?_); rintro e w1 ⟨rfl, hb1⟩; obtain ⟨hc1, hf1⟩ := hb1.bcell; have k3 := hb1.cell (p := ⟨w.heap.size, 3, none⟩) (v := .int .u64 a) (by simp); have k4 := hb1.cell (p := ⟨w.heap.size, 4, none⟩) (v := .int .u64 b) (by simp)))
  all_goals refine bodyPost_ret (v := .tuple #[oneV r n f a b, .int .i64 3]) (by simp [results, Try.results7, hc1, hf1, go_sem, oneV]) rfl ⟨rfl, ?_⟩
  all_goals (repeat (refine Ext.setCell ?_ (by simp) _))
  all_goals exact (((Ext.refl w).alloc _).alloc _).trans hb1

set_option maxHeartbeats 1000000 in
theorem colour1_red3 (r n f a b x came : Int) (w : World) (hr : 0 ≤ r ∧ r ≤ 18446744073709551615) (hn : 0 ≤ n ∧ n ≤ 18446744073709551615) (hf : 0 ≤ f ∧ f ≤ 18446744073709551615) (ha : 0 ≤ a ∧ a ≤ 18446744073709551615) (hb : 0 ≤ b ∧ b ≤ 18446744073709551615) (hx : 0 ≤ x ∧ x ≤ 18446744073709551615) (hck : ckOne r n f a b = 0) (h1 : came = 3) :
    Calls Try.prog 7 #[.agg #[.int .u64 r, .int .u64 n, .int .u64 f, .int .u64 a, .int .u64 b], .int .u64 x, .int .i64 came] w fun e w' =>
      e = .returned (.tuple #[oneV r n f a b, .int .i64 3]) ∧ Ext w w' := by
  have H1 := hid (fun w => calls_eq (check1_any r n f a b w hr.1 hn.1 hf.1 ha.1 hb.1) (val_int hck))
  clear hck
  subst h1
  go_enter Try.func7, Try.ntmps7
  go_wp2_with (go_at_call 24; ((with_reducible refine (H1.out _).mono ?_); rintro e w1 ⟨rfl, hb1⟩; obtain ⟨hc1, hf1⟩ := hb1.bcell; have k3 := hb1.cell (p := ⟨w.heap.size, 3, none⟩) (v := .int .u64 a) (by simp); have k4 := hb1.cell (p := ⟨w.heap.size, 4, none⟩) (v := .int .u64 b) (by simp)))
  all_goals refine bodyPost_ret (v := .tuple #[oneV r n f a b, .int .i64 3]) (by simp [results, Try.results7, hc1, hf1, go_sem, oneV]) rfl ⟨rfl, ?_⟩
  all_goals (repeat (refine Ext.setCell ?_ (by simp) _))
  all_goals exact (((Ext.refl w).alloc _).alloc _).trans hb1

theorem colour1_any (r n f a b x came : Int) (w : World) (hr : 0 ≤ r ∧ r ≤ 18446744073709551615) (hn : 0 ≤ n ∧ n ≤ 18446744073709551615) (hf : 0 ≤ f ∧ f ≤ 18446744073709551615) (ha : 0 ≤ a ∧ a ≤ 18446744073709551615) (hb : 0 ≤ b ∧ b ≤ 18446744073709551615) (hx : 0 ≤ x ∧ x ≤ 18446744073709551615) (hck : ckOne r n f a b = 0) :
    Calls Try.prog 7 #[.agg #[.int .u64 r, .int .u64 n, .int .u64 f, .int .u64 a, .int .u64 b], .int .u64 x, .int .i64 came] w fun e w' =>
      e = .returned (.tuple #[oneV r n f (tokA1 a b x came) (tokB1 a b x came), .int .i64 (colOne a b x came)]) ∧ Ext w w' := by
  by_cases h1 : came = 3
  · have e : colOne a b x came = 3 := by unfold colOne; rw [if_neg (by omega), if_neg (by omega)]
    exact calls_eq (colour1_red3 r n f a b x came w hr hn hf ha hb hx hck h1) (by rw [tokA1, tokB1, e]; rfl)
  by_cases h2 : came = 2
  · by_cases h3 : x ≤ b
    · have e : colOne a b x came = 2 := by unfold colOne; rw [if_neg (by omega), if_pos (by omega)]
      exact calls_eq (colour1_yellow2 r n f a b x came w hr hn hf ha hb hx hck h2 h3) (by rw [tokA1, tokB1, e]; rfl)
    · have e : colOne a b x came = 3 := by unfold colOne; rw [if_neg (by omega), if_neg (by omega)]
      exact calls_eq (colour1_red2 r n f a b x came w hr hn hf ha hb hx hck h2 (by omega)) (by rw [tokA1, tokB1, e]; rfl)
  by_cases h4 : x ≤ a
  · have e : colOne a b x came = 1 := by unfold colOne; rw [if_pos (by omega)]
    exact calls_eq (colour1_green r n f a b x came w hr hn hf ha hb hx hck ⟨h2, h1⟩ h4) (by rw [tokA1, tokB1, e]; rfl)
  by_cases h3 : x ≤ b
  · have e : colOne a b x came = 2 := by unfold colOne; rw [if_neg (by omega), if_pos (by omega)]
    exact calls_eq (colour1_yellow1 r n f a b x came w hr hn hf ha hb hx hck ⟨h2, h1⟩ (by omega) h3) (by rw [tokA1, tokB1, e]; rfl)
  · have e : colOne a b x came = 3 := by unfold colOne; rw [if_neg (by omega), if_neg (by omega)]
    exact calls_eq (colour1_red1 r n f a b x came w hr hn hf ha hb hx hck ⟨h2, h1⟩ (by omega) (by omega)) (by rw [tokA1, tokB1, e]; rfl)

set_option maxHeartbeats 1000000 in
theorem colour2_bad (s q n f a b x came : Int) (w : World) (hs : 0 ≤ s ∧ s ≤ 18446744073709551615) (hq : 0 ≤ q ∧ q ≤ 18446744073709551615) (hn : 0 ≤ n ∧ n ≤ 18446744073709551615) (hf : 0 ≤ f ∧ f ≤ 18446744073709551615) (ha : 0 ≤ a ∧ a ≤ 18446744073709551615) (hb : 0 ≤ b ∧ b ≤ 18446744073709551615) (hx : 0 ≤ x ∧ x ≤ 18446744073709551615) (hck : ckTwo s q n f a b ≠ 0) :
    Calls Try.prog 8 #[.agg #[.int .u64 s, .int .u64 q, .int .u64 n, .int .u64 f, .int .u64 a, .int .u64 b], .int .u64 x, .int .i64 came] w fun e w' =>
      e = .returned (.tuple #[zeroTwo, .int .i64 3]) ∧ Ext w w' := by
  obtain ⟨c, hc⟩ : ∃ c, ckTwo s q n f a b = c := ⟨_, rfl⟩
  have H1 := hid (fun w => calls_eq (check2_any s q n f a b w hs.1 hq.1 hn.1 hf.1 ha.1 hb.1) (val_int hc))
  rw [hc] at hck
  have hcn : (c != 0) = true := by simpa using hck
  clear hc
  go_enter Try.func8, Try.ntmps8
  go_wp2_with (go_at_call 25; ((with_reducible refine (H1.out _).mono ?_); rintro e w1 ⟨rfl, hb1⟩; obtain ⟨hc1, hf1⟩ := hb1.bcell; have k4 := hb1.cell (p := ⟨w.heap.size, 4, none⟩) (v := .int .u64 a) (by simp); have k5 := hb1.cell (p := ⟨w.heap.size, 5, none⟩) (v := .int .u64 b) (by simp)))
  all_goals refine bodyPost_ret (v := .tuple #[zeroTwo, .int .i64 3]) (by simp [results, Try.results8, hc1, hf1, go_sem, zeroTwo]) rfl ⟨rfl, ?_⟩
  all_goals (repeat (refine Ext.setCell ?_ (by simp) _))
  all_goals exact (((Ext.refl w).alloc _).alloc _).trans hb1

set_option maxHeartbeats 1000000 in
theorem colour2_red3 (s q n f a b x came : Int) (w : World) (hs : 0 ≤ s ∧ s ≤ 18446744073709551615) (hq : 0 ≤ q ∧ q ≤ 18446744073709551615) (hn : 0 ≤ n ∧ n ≤ 18446744073709551615) (hf : 0 ≤ f ∧ f ≤ 18446744073709551615) (ha : 0 ≤ a ∧ a ≤ 18446744073709551615) (hb : 0 ≤ b ∧ b ≤ 18446744073709551615) (hx : 0 ≤ x ∧ x ≤ 18446744073709551615) (hck : ckTwo s q n f a b = 0) (h1 : came = 3) :
    Calls Try.prog 8 #[.agg #[.int .u64 s, .int .u64 q, .int .u64 n, .int .u64 f, .int .u64 a, .int .u64 b], .int .u64 x, .int .i64 came] w fun e w' =>
      e = .returned (.tuple #[twoV s q n f a b, .int .i64 3]) ∧ Ext w w' := by
  have H1 := hid (fun w => calls_eq (check2_any s q n f a b w hs.1 hq.1 hn.1 hf.1 ha.1 hb.1) (val_int hck))
  clear hck
  subst h1
  go_enter Try.func8, Try.ntmps8
  go_wp2_with (go_at_call 25; ((with_reducible refine (H1.out _).mono ?_); rintro e w1 ⟨rfl, hb1⟩; obtain ⟨hc1, hf1⟩ := hb1.bcell; have k4 := hb1.cell (p := ⟨w.heap.size, 4, none⟩) (v := .int .u64 a) (by simp); have k5 := hb1.cell (p := ⟨w.heap.size, 5, none⟩) (v := .int .u64 b) (by simp)))
  all_goals refine bodyPost_ret (v := .tuple #[twoV s q n f a b, .int .i64 3]) (by simp [results, Try.results8, hc1, hf1, go_sem, twoV]) rfl ⟨rfl, ?_⟩
  all_goals (repeat (refine Ext.setCell ?_ (by simp) _))
  all_goals exact (((Ext.refl w).alloc _).alloc _).trans hb1

set_option maxHeartbeats 1000000 in
theorem colour2_red (s q n f a b x came : Int) (w : World) (hs : 0 ≤ s ∧ s ≤ 18446744073709551615) (hq : 0 ≤ q ∧ q ≤ 18446744073709551615) (hn : 0 ≤ n ∧ n ≤ 18446744073709551615) (hf : 0 ≤ f ∧ f ≤ 18446744073709551615) (ha : 0 ≤ a ∧ a ≤ 18446744073709551615) (hb : 0 ≤ b ∧ b ≤ 18446744073709551615) (hx : 0 ≤ x ∧ x ≤ 18446744073709551615) (hck : ckTwo s q n f a b = 0) (h1 : came ≠ 3) (h2 : b < x) :
    Calls Try.prog 8 #[.agg #[.int .u64 s, .int .u64 q, .int .u64 n, .int .u64 f, .int .u64 a, .int .u64 b], .int .u64 x, .int .i64 came] w fun e w' =>
      e = .returned (.tuple #[twoV s q n f a b, .int .i64 3]) ∧ Ext w w' := by
  have H1 := hid (fun w => calls_eq (check2_any s q n f a b w hs.1 hq.1 hn.1 hf.1 ha.1 hb.1) (val_int hck))
  clear hck
  have e1 : (came == 3) = false := by simpa using h1
  have e2 : decide (b < x) = true := by simpa using h2
  go_enter Try.func8, Try.ntmps8
  go_wp2_with (go_at_call 25; ((with_reducible refine (H1.out _).mono ?_); rintro e w1 ⟨rfl, hb1⟩; obtain ⟨hc1, hf1⟩ := hb1.bcell; have k4 := hb1.cell (p := ⟨w.heap.size, 4, none⟩) (v := .int .u64 a) (by simp); have k5 := hb1.cell (p := ⟨w.heap.size, 5, none⟩) (v := .int .u64 b) (by simp)))
  all_goals refine bodyPost_ret (v := .tuple #[twoV s q n f a b, .int .i64 3]) (by simp [results, Try.results8, hc1, hf1, go_sem, twoV]) rfl ⟨rfl, ?_⟩
  all_goals (repeat (refine Ext.setCell ?_ (by simp) _))
  all_goals exact (((Ext.refl w).alloc _).alloc _).trans hb1

set_option maxHeartbeats 1000000 in
theorem colour2_yellow2 (s q n f a b x came : Int) (w : World) (hs : 0 ≤ s ∧ s ≤ 18446744073709551615) (hq : 0 ≤ q ∧ q ≤ 18446744073709551615) (hn : 0 ≤ n ∧ n ≤ 18446744073709551615) (hf : 0 ≤ f ∧ f ≤ 18446744073709551615) (ha : 0 ≤ a ∧ a ≤ 18446744073709551615) (hb : 0 ≤ b ∧ b ≤ 18446744073709551615) (hx : 0 ≤ x ∧ x ≤ 18446744073709551615) (hck : ckTwo s q n f a b = 0) (h1 : came = 2) (h2 : x ≤ b) :
    Calls Try.prog 8 #[.agg #[.int .u64 s, .int .u64 q, .int .u64 n, .int .u64 f, .int .u64 a, .int .u64 b], .int .u64 x, .int .i64 came] w fun e w' =>
      e = .returned (.tuple #[twoV s q n f a (b - x), .int .i64 2]) ∧ Ext w w' := by
  have H1 := hid (fun w => calls_eq (check2_any s q n f a b w hs.1 hq.1 hn.1 hf.1 ha.1 hb.1) (val_int hck))
  clear hck
  subst h1
  have e2 : decide (b < x) = false := by simpa using h2
  go_enter Try.func8, Try.ntmps8
  go_wp2_with (go_at_call 25; ((with_reducible refine (H1.out _).mono ?_); rintro e w1 ⟨rfl, hb1⟩; obtain ⟨hc1, hf1⟩ := hb1.bcell; have k4 := hb1.cell (p := ⟨w.heap.size, 4, none⟩) (v := .int .u64 a) (by simp); have k5 := hb1.cell (p := ⟨w.heap.size, 5, none⟩) (v := .int .u64 b) (by simp)))
  all_goals refine bodyPost_ret (v := .tuple #[twoV s q n f a (b - x), .int .i64 2]) (by simp [results, Try.results8, hc1, hf1, go_sem, twoV]) rfl ⟨rfl, ?_⟩
  all_goals (repeat (refine Ext.setCell ?_ (by simp) _))
  all_goals exact (((Ext.refl w).alloc _).alloc _).trans hb1

set_option maxHeartbeats 1000000 in
theorem colour2_yellow (s q n f a b x came : Int) (w : World) (hs : 0 ≤ s ∧ s ≤ 18446744073709551615) (hq : 0 ≤ q ∧ q ≤ 18446744073709551615) (hn : 0 ≤ n ∧ n ≤ 18446744073709551615) (hf : 0 ≤ f ∧ f ≤ 18446744073709551615) (ha : 0 ≤ a ∧ a ≤ 18446744073709551615) (hb : 0 ≤ b ∧ b ≤ 18446744073709551615) (hx : 0 ≤ x ∧ x ≤ 18446744073709551615) (hck : ckTwo s q n f a b = 0) (h1 : came ≠ 3 ∧ came ≠ 2) (h2 : x ≤ b) (h3 : a < x) :
    Calls Try.prog 8 #[.agg #[.int .u64 s, .int .u64 q, .int .u64 n, .int .u64 f, .int .u64 a, .int .u64 b], .int .u64 x, .int .i64 came] w fun e w' =>
      e = .returned (.tuple #[twoV s q n f a (b - x), .int .i64 2]) ∧ Ext w w' := by
  have H1 := hid (fun w => calls_eq (check2_any s q n f a b w hs.1 hq.1 hn.1 hf.1 ha.1 hb.1) (val_int hck))
  clear hck
  have e1 : (came == 3) = false := by simpa using h1.1
  have e4 : (came == 2) = false := by simpa using h1.2
  have e2 : decide (b < x) = false := by simpa using h2
  have e3 : decide (a < x) = true := by simpa using h3
  go_enter Try.func8, Try.ntmps8
  go_wp2_with (go_at_call 25; ((with_reducible refine (H1.out _).mono ?_); rintro e w1 ⟨rfl, hb1⟩; obtain ⟨hc1, hf1⟩ := hb1.bcell; have k4 := hb1.cell (p := ⟨w.heap.size, 4, none⟩) (v := .int .u64 a) (by simp); have k5 := hb1.cell (p := ⟨w.heap.size, 5, none⟩) (v := .int .u64 b) (by simp)))
  all_goals refine bodyPost_ret (v := .tuple #[twoV s q n f a (b - x), .int .i64 2]) (by simp [results, Try.results8, hc1, hf1, go_sem, twoV]) rfl ⟨rfl, ?_⟩
  all_goals (repeat (refine Ext.setCell ?_ (by simp) _))
  all_goals exact (((Ext.refl w).alloc _).alloc _).trans hb1

set_option maxHeartbeats 1000000 in
theorem colour2_green (s q n f a b x came : Int) (w : World) (hs : 0 ≤ s ∧ s ≤ 18446744073709551615) (hq : 0 ≤ q ∧ q ≤ 18446744073709551615) (hn : 0 ≤ n ∧ n ≤ 18446744073709551615) (hf : 0 ≤ f ∧ f ≤ 18446744073709551615) (ha : 0 ≤ a ∧ a ≤ 18446744073709551615) (hb : 0 ≤ b ∧ b ≤ 18446744073709551615) (hx : 0 ≤ x ∧ x ≤ 18446744073709551615) (hck : ckTwo s q n f a b = 0) (h1 : came ≠ 3 ∧ came ≠ 2) (h2 : x ≤ b) (h3 : x ≤ a) :
    Calls Try.prog 8 #[.agg #[.int .u64 s, .int .u64 q, .int .u64 n, .int .u64 f, .int .u64 a, .int .u64 b], .int .u64 x, .int .i64 came] w fun e w' =>
      e = .returned (.tuple #[twoV s q n f (a - x) (b - x), .int .i64 1]) ∧ Ext w w' := by
  have H1 := hid (fun w => calls_eq (check2_any s q n f a b w hs.1 hq.1 hn.1 hf.1 ha.1 hb.1) (val_int hck))
  clear hck
  have e1 : (came == 3) = false := by simpa using h1.1
  have e4 : (came == 2) = false := by simpa using h1.2
  have e2 : decide (b < x) = false := by simpa using h2
  have e3 : decide (a < x) = false := by simpa using h3
  go_enter Try.func8, Try.ntmps8
  go_wp2_with (go_at_call 25; ((with_reducible refine (H1.out _).mono ?_); rintro e w1 ⟨rfl, hb1⟩; obtain ⟨hc1, hf1⟩ := hb1.bcell; have k4 := hb1.cell (p := ⟨w.heap.size, 4, none⟩) (v := .int .u64 a) (by simp); have k5 := hb1.cell (p := ⟨w.heap.size, 5, none⟩) (v := .int .u64 b) (by simp)))
  all_goals refine bodyPost_ret (v := .tuple #[twoV s q n f (a - x) (b - x), .int .i64 1]) (by simp [results, Try.results8, hc1, hf1, go_sem, twoV]) rfl ⟨rfl, ?_⟩
  all_goals (repeat (refine Ext.setCell ?_ (by simp) _))
  all_goals exact (((Ext.refl w).alloc _).alloc _).trans hb1

theorem colour2_any (s q n f a b x came : Int) (w : World) (hs : 0 ≤ s ∧ s ≤ 18446744073709551615) (hq : 0 ≤ q ∧ q ≤ 18446744073709551615) (hn : 0 ≤ n ∧ n ≤ 18446744073709551615) (hf : 0 ≤ f ∧ f ≤ 18446744073709551615) (ha : 0 ≤ a ∧ a ≤ 18446744073709551615) (hb : 0 ≤ b ∧ b ≤ 18446744073709551615) (hx : 0 ≤ x ∧ x ≤ 18446744073709551615) (hck : ckTwo s q n f a b = 0) :
    Calls Try.prog 8 #[.agg #[.int .u64 s, .int .u64 q, .int .u64 n, .int .u64 f, .int .u64 a, .int .u64 b], .int .u64 x, .int .i64 came] w fun e w' =>
      e = .returned (.tuple #[twoV s q n f (tokA2 a b x came) (tokB2 a b x came), .int .i64 (colTwo a b x came)]) ∧ Ext w w' := by
  by_cases h1 : came = 3
  · have e : colTwo a b x came = 3 := by unfold colTwo; rw [if_pos (by omega)]
    exact calls_eq (colour2_red3 s q n f a b x came w hs hq hn hf ha hb hx hck h1) (by rw [tokA2, tokB2, e]; rfl)
  by_cases h2 : x ≤ b
  · by_cases h3 : came = 2
    · have e : colTwo a b x came = 2 := by unfold colTwo; rw [if_neg (by omega), if_pos (by omega)]
      exact calls_eq (colour2_yellow2 s q n f a b x came w hs hq hn hf ha hb hx hck h3 h2) (by rw [tokA2, tokB2, e]; rfl)
    · by_cases h4 : x ≤ a
      · have e : colTwo a b x came = 1 := by unfold colTwo; rw [if_neg (by omega), if_neg (by omega)]
        exact calls_eq (colour2_green s q n f a b x came w hs hq hn hf ha hb hx hck ⟨h1, h3⟩ h2 h4) (by rw [tokA2, tokB2, e]; rfl)
      · have e : colTwo a b x came = 2 := by unfold colTwo; rw [if_neg (by omega), if_pos (by omega)]
        exact calls_eq (colour2_yellow s q n f a b x came w hs hq hn hf ha hb hx hck ⟨h1, h3⟩ h2 (by omega)) (by rw [tokA2, tokB2, e]; rfl)
  · have e : colTwo a b x came = 3 := by unfold colTwo; rw [if_pos (by omega)]
    exact calls_eq (colour2_red s q n f a b x came w hs hq hn hf ha hb hx hck h1 (by omega)) (by rw [tokA2, tokB2, e]; rfl)

end Go.Proofs.Ytlmeemilikladaa
