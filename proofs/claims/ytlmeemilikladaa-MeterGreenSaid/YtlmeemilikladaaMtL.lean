import Derived.Test.YtlmeemilikladaaMtC
namespace Go.Proofs.Ytlmeemilikladaa
set_option linter.unusedVariables false
set_option linter.unusedSimpArgs false
open Go.RowKit

set_option maxHeartbeats 1000000 in
theorem new1_yes (r n f : Int) (w : World) (hr : 0 ≤ r) (hn : 0 ≤ n) (hf : 0 ≤ f) (hck : ckOne r n f n f = 0) :
    Calls Try.prog 14 #[.int .u64 r, .int .u64 n, .int .u64 f] w fun e w' => e = .returned (.tuple #[oneV r n f n f, .int .i64 0]) ∧ Ext w w' := by
  have H1 := hid (fun w => calls_eq (check1_any r n f n f w hr hn hf hn hf) (val_int hck))
  clear hck
  have hss := cell_set_same
  go_enter Try.func14, Try.ntmps14
  go_wp2_with (go_at_call 24; ((with_reducible refine (H1.out _).mono ?_); rintro e w1 ⟨rfl, hb1⟩; obtain ⟨hc1, hf1⟩ := hb1.bcell))
  all_goals refine bodyPost_ret (v := .tuple #[oneV r n f n f, .int .i64 0]) (by simp [results, Try.results14, hc1, hf1, hss, go_sem, oneV]) rfl ⟨rfl, ?_⟩
  all_goals (repeat (refine Ext.setCell ?_ (by simp) _))
  all_goals exact (((Ext.refl w).alloc _).alloc _).trans hb1

set_option maxHeartbeats 1000000 in
theorem new1_no (r n f c : Int) (w : World) (hr : 0 ≤ r) (hn : 0 ≤ n) (hf : 0 ≤ f) (hck : ckOne r n f n f = c) (hc0 : c ≠ 0) :
    Calls Try.prog 14 #[.int .u64 r, .int .u64 n, .int .u64 f] w fun e w' => e = .returned (.tuple #[zeroOne, .int .i64 c]) ∧ Ext w w' := by
  have H1 := hid (fun w => calls_eq (check1_any r n f n f w hr hn hf hn hf) (val_int hck))
  have hcn : (c != 0) = true := by simpa using hc0
  clear hck
  have hss := cell_set_same
  go_enter Try.func14, Try.ntmps14
  go_wp2_with (go_at_call 24; ((with_reducible refine (H1.out _).mono ?_); rintro e w1 ⟨rfl, hb1⟩; obtain ⟨hc1, hf1⟩ := hb1.bcell))
  all_goals refine bodyPost_ret (v := .tuple #[zeroOne, .int .i64 c]) (by simp [results, Try.results14, hc1, hf1, hss, go_sem, zeroOne]) rfl ⟨rfl, ?_⟩
  all_goals (repeat (refine Ext.setCell ?_ (by simp) _))
  all_goals exact (((Ext.refl w).alloc _).alloc _).trans hb1

/-- The example's meter and its answers, behind so many packets. -/
def LivesAt (B : Nat) (a b g0 g1 g2 g3 : Int) (w : World) : Prop :=
  (w.cell? ⟨B, 0, none⟩ = some (.int .u64 1) ∧ w.cell? ⟨B, 1, none⟩ = some (.int .u64 10) ∧ w.cell? ⟨B, 2, none⟩ = some (.int .u64 5) ∧ w.cell? ⟨B, 3, none⟩ = some (.int .u64 a) ∧ w.cell? ⟨B, 4, none⟩ = some (.int .u64 b)) ∧
  (w.cell? ⟨B + 1, 0, none⟩ = some (.int .i64 g0) ∧ w.cell? ⟨B + 1, 1, none⟩ = some (.int .i64 g1) ∧ w.cell? ⟨B + 1, 2, none⟩ = some (.int .i64 g2) ∧ w.cell? ⟨B + 1, 3, none⟩ = some (.int .i64 g3)) ∧
  (∀ o, w.frozen? ⟨B, o, none⟩ = false) ∧ (∀ o, w.frozen? ⟨B + 1, o, none⟩ = false)

theorem LivesAt.ext {B : Nat} {a b g0 g1 g2 g3 : Int} {w w2 : World} (h : LivesAt B a b g0 g1 g2 g3 w) (k : Ext w w2) : LivesAt B a b g0 g1 g2 g3 w2 := by
  obtain ⟨⟨h0, h1, h2, h3, h4⟩, ⟨k0, k1, k2, k3⟩, f0, f1⟩ := h
  have l0 := World.block_lt_of_cell? w _ h0
  have l1 := World.block_lt_of_cell? w _ k0
  exact ⟨⟨k.cell h0, k.cell h1, k.cell h2, k.cell h3, k.cell h4⟩, ⟨k.cell k0, k.cell k1, k.cell k2, k.cell k3⟩, fun o => by rw [k.bcell.2 B o l0, f0], fun o => by rw [k.bcell.2 (B + 1) o l1, f1]⟩

def lTab (B k : Nat) (w : World) : Prop :=
  match k with
  | 0 => LivesAt B 10 5 0 0 0 0 w
  | 1 => LivesAt B 2 5 1 0 0 0 w
  | 2 => LivesAt B 2 0 1 2 0 0 w
  | 3 => LivesAt B 2 0 1 2 3 0 w
  | _ => LivesAt B 0 0 1 2 3 1 w

def bd (x : Int) : Prop := 0 ≤ x ∧ x ≤ 18446744073709551615
theorem bdI (x : Int) (h : 0 ≤ x ∧ x ≤ 1000) : 0 ≤ x ∧ x ≤ 18446744073709551615 := by omega

theorem colour1_at (a b x c a' b' : Int) (w : World) (ha : 0 ≤ a ∧ a ≤ 10) (hb : 0 ≤ b ∧ b ≤ 5) (hx : 0 ≤ x ∧ x ≤ 10) (hc : colOne a b x 1 = c) (h1 : tokA1 a b x 1 = a') (h2 : tokB1 a b x 1 = b') :
    Calls Try.prog 7 #[.agg #[.int .u64 1, .int .u64 10, .int .u64 5, .int .u64 a, .int .u64 b], .int .u64 x, .int .i64 1] w fun e w' =>
      e = .returned (.tuple #[.agg #[.int .u64 1, .int .u64 10, .int .u64 5, .int .u64 a', .int .u64 b'], .int .i64 c]) ∧ Ext w w' :=
  calls_eq (colour1_any 1 10 5 a b x 1 w (bdI _ (by omega)) (bdI _ (by omega)) (bdI _ (by omega)) (bdI _ (by omega)) (bdI _ (by omega)) (bdI _ (by omega)) (by unfold ckOne; rw [if_neg (by omega), if_neg (by omega)])) (by rw [hc, h1, h2]; rfl)

set_option maxHeartbeats 2000000 in
theorem lives_any (w : World) :
    Calls Try.prog 11 #[] w fun e w' => e = .returned (.bool true) ∧ Ext w w' := by
  have HN := hid (fun w => new1_yes 1 10 5 w (by decide) (by decide) (by decide) (by decide))
  have C0 := hid (fun w => colour1_at 10 5 8 1 2 5 w (by omega) (by omega) (by omega) (by decide) (by decide) (by decide))
  have C1 := hid (fun w => colour1_at 2 5 5 2 2 0 w (by omega) (by omega) (by omega) (by decide) (by decide) (by decide))
  have C2 := hid (fun w => colour1_at 2 0 3 3 2 0 w (by omega) (by omega) (by omega) (by decide) (by decide) (by decide))
  have C3 := hid (fun w => colour1_at 2 0 2 1 0 0 w (by omega) (by omega) (by omega) (by decide) (by decide) (by decide))
  have hss := cell_set_same
  have i0 : ∀ w, (Instr.index 60 (.agg #[.int .u64 8, .int .u64 5, .int .u64 3, .int .u64 2]) (.int .i64 0)).run Try.prog w = .ok (.int .u64 8) w := fun _ => by kernel_rfl
  have i1 : ∀ w, (Instr.index 60 (.agg #[.int .u64 8, .int .u64 5, .int .u64 3, .int .u64 2]) (.int .i64 1)).run Try.prog w = .ok (.int .u64 5) w := fun _ => by kernel_rfl
  have i2 : ∀ w, (Instr.index 60 (.agg #[.int .u64 8, .int .u64 5, .int .u64 3, .int .u64 2]) (.int .i64 2)).run Try.prog w = .ok (.int .u64 3) w := fun _ => by kernel_rfl
  have i3 : ∀ w, (Instr.index 60 (.agg #[.int .u64 8, .int .u64 5, .int .u64 3, .int .u64 2]) (.int .i64 3)).run Try.prog w = .ok (.int .u64 2) w := fun _ => by kernel_rfl
  have eq0 : ∀ w, (Op.equalIn 10000 69 (.agg #[.int .i64 1, .int .i64 2, .int .i64 3, .int .i64 1]) (.agg #[.int .i64 1, .int .i64 2, .int .i64 3, .int .i64 1])).run Try.prog w = .ok true w := fun _ => by kernel_rfl
  go_enter Try.func11, Try.ntmps11
  go_wp2_with (go_at_call 14; ((with_reducible refine (HN.out _).mono ?_); unfold oneV; rintro e w1 ⟨rfl, hb1⟩))
  go_loopw [11] (fun i wr => ∃ k : Nat, k ≤ 4 ∧ i = .int .i64 k ∧ lTab w1.heap.size k wr ∧ Ext w wr) (fun i _ => 4 - (intOf i).toNat)
  case atStart => exact ⟨0, by omega, rfl, ⟨⟨by simp, by simp, by simp, by simp, by simp⟩, ⟨by simp, by simp, by simp, by simp⟩, fun o => by simp, fun o => by simp⟩, (hb1.alloc _).alloc _⟩
  case round =>
    obtain ⟨k, hk, rfl, ht, hx⟩ := hrel
    have hB : w.heap.size ≤ w1.heap.size := hb1.size
    generalize w1.heap.size = B at ht hB ⊢
    rcases (show k = 0 ∨ k = 1 ∨ k = 2 ∨ k = 3 ∨ k = 4 by omega) with rfl | rfl | rfl | rfl | rfl
    · have ht' : LivesAt B 10 5 0 0 0 0 _ := ht
      clear ht
      have HT := hid ht'
      obtain ⟨⟨h0, h1, h2, h3, h4⟩, _, _⟩ := ht'
      go_wp2_with (go_at_call 7; ((with_reducible refine (C0.out _).mono ?_); rintro e w2 ⟨rfl, hb2⟩; obtain ⟨⟨k0, k1, k2, k3, k4⟩, ⟨g0, g1, g2, g3⟩, f0, f1⟩ := HT.out.ext hb2; clear h0 h1 h2 h3 h4))
      refine ⟨⟨1, by omega, rfl, ⟨⟨by simp [go_sem, *], by simp [go_sem, *], by simp [go_sem, *], by simp [go_sem, *], by simp [go_sem, *]⟩, ⟨by simp [go_sem, *], by simp [go_sem, *], by simp [go_sem, *], by simp [go_sem, *]⟩, fun o => by simp [go_sem, *], fun o => by simp [go_sem, *]⟩, ?_⟩, by decide⟩
      (repeat (refine Ext.setCell ?_ (by simp; omega) _))
      exact hx.trans hb2
    · have ht' : LivesAt B 2 5 1 0 0 0 _ := ht
      clear ht
      have HT := hid ht'
      obtain ⟨⟨h0, h1, h2, h3, h4⟩, _, _⟩ := ht'
      go_wp2_with (go_at_call 7; ((with_reducible refine (C1.out _).mono ?_); rintro e w2 ⟨rfl, hb2⟩; obtain ⟨⟨k0, k1, k2, k3, k4⟩, ⟨g0, g1, g2, g3⟩, f0, f1⟩ := HT.out.ext hb2; clear h0 h1 h2 h3 h4))
      refine ⟨⟨2, by omega, rfl, ⟨⟨by simp [go_sem, *], by simp [go_sem, *], by simp [go_sem, *], by simp [go_sem, *], by simp [go_sem, *]⟩, ⟨by simp [go_sem, *], by simp [go_sem, *], by simp [go_sem, *], by simp [go_sem, *]⟩, fun o => by simp [go_sem, *], fun o => by simp [go_sem, *]⟩, ?_⟩, by decide⟩
      (repeat (refine Ext.setCell ?_ (by simp; omega) _))
      exact hx.trans hb2
    · have ht' : LivesAt B 2 0 1 2 0 0 _ := ht
      clear ht
      have HT := hid ht'
      obtain ⟨⟨h0, h1, h2, h3, h4⟩, _, _⟩ := ht'
      go_wp2_with (go_at_call 7; ((with_reducible refine (C2.out _).mono ?_); rintro e w2 ⟨rfl, hb2⟩; obtain ⟨⟨k0, k1, k2, k3, k4⟩, ⟨g0, g1, g2, g3⟩, f0, f1⟩ := HT.out.ext hb2; clear h0 h1 h2 h3 h4))
      refine ⟨⟨3, by omega, rfl, ⟨⟨by simp [go_sem, *], by simp [go_sem, *], by simp [go_sem, *], by simp [go_sem, *], by simp [go_sem, *]⟩, ⟨by simp [go_sem, *], by simp [go_sem, *], by simp [go_sem, *], by simp [go_sem, *]⟩, fun o => by simp [go_sem, *], fun o => by simp [go_sem, *]⟩, ?_⟩, by decide⟩
      (repeat (refine Ext.setCell ?_ (by simp; omega) _))
      exact hx.trans hb2
    · have ht' : LivesAt B 2 0 1 2 3 0 _ := ht
      clear ht
      have HT := hid ht'
      obtain ⟨⟨h0, h1, h2, h3, h4⟩, _, _⟩ := ht'
      go_wp2_with (go_at_call 7; ((with_reducible refine (C3.out _).mono ?_); rintro e w2 ⟨rfl, hb2⟩; obtain ⟨⟨k0, k1, k2, k3, k4⟩, ⟨g0, g1, g2, g3⟩, f0, f1⟩ := HT.out.ext hb2; clear h0 h1 h2 h3 h4))
      refine ⟨⟨4, by omega, rfl, ⟨⟨by simp [go_sem, *], by simp [go_sem, *], by simp [go_sem, *], by simp [go_sem, *], by simp [go_sem, *]⟩, ⟨by simp [go_sem, *], by simp [go_sem, *], by simp [go_sem, *], by simp [go_sem, *]⟩, fun o => by simp [go_sem, *], fun o => by simp [go_sem, *]⟩, ?_⟩, by decide⟩
      (repeat (refine Ext.setCell ?_ (by simp; omega) _))
      exact hx.trans hb2
    · have ht' : LivesAt B 0 0 1 2 3 1 _ := ht
      clear ht
      obtain ⟨_, ⟨g0, g1, g2, g3⟩, _⟩ := ht'
      go_wp2
      go_ret
      exact ⟨rfl, hx⟩
end Go.Proofs.Ytlmeemilikladaa
