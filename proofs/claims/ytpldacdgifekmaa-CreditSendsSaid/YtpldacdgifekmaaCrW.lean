import Derived.Test.YtpldacdgifekmaaB0
import Derived.Test.YtpldacdgifekmaaCrM
namespace Go.Proofs.Ytpldacdgifekmaa
set_option linter.unusedVariables false
set_option linter.unusedSimpArgs false
open Go.RowKit

set_option maxHeartbeats 1000000 in
theorem check_any (i s h v : Int) (w : World) :
    Calls Try.prog 9 #[.agg #[.int .i64 i, .int .i64 s, .int .i64 h, .int .i64 v]] w fun e w' => e = .returned (.int .i64 (chkC i s h v)) ∧ Ext w w' := by
  have i0 : ∀ x0 x1 x2 w, (Instr.index 50 (.agg #[.int .i64 x0, .int .i64 x1, .int .i64 x2]) (.int .i64 0)).run Try.prog w = .ok (.int .i64 x0) w := fun _ _ _ _ => by kernel_rfl
  have i1 : ∀ x0 x1 x2 w, (Instr.index 50 (.agg #[.int .i64 x0, .int .i64 x1, .int .i64 x2]) (.int .i64 1)).run Try.prog w = .ok (.int .i64 x1) w := fun _ _ _ _ => by kernel_rfl
  have i2 : ∀ x0 x1 x2 w, (Instr.index 50 (.agg #[.int .i64 x0, .int .i64 x1, .int .i64 x2]) (.int .i64 2)).run Try.prog w = .ok (.int .i64 x2) w := fun _ _ _ _ => by kernel_rfl
  go_enter Try.func9, Try.ntmps9
  go_wp2
  go_loop [12] (fun x => ∃ k : Nat, k ≤ 3 ∧ x = .int .i64 k ∧ (1 ≤ k → V i) ∧ (2 ≤ k → V s) ∧ (3 ≤ k → V h)) (fun x => 3 - (intOf x).toNat)
  case atStart => exact ⟨0, by omega, rfl, by omega, by omega, by omega⟩
  case round =>
    obtain ⟨k, hk, rfl, h1, h2, h3⟩ := hrel
    have H1 := hid h1
    have H2 := hid h2
    have H3 := hid h3
    clear h1 h2 h3
    rcases (show k = 0 ∨ k = 1 ∨ k = 2 ∨ k = 3 by omega) with rfl | rfl | rfl | rfl
    · by_cases hv : V i
      · have hv' := hv
        unfold V at hv'
        go_wp2
        go_round
        case rel => exact ⟨1, by omega, rfl, fun _ => hv, by omega, by omega⟩
        case measure => decide
      · have hv' : i < 1 ∨ 1048576 < i := by unfold V at hv; omega
        go_wp2
        all_goals go_ret
        all_goals exact ⟨ret_int (chk_no _ _ _ _ (fun k => hv k.1)), (Ext.refl w).alloc _⟩
    · by_cases hv : V s
      · have hv' := hv
        unfold V at hv'
        go_wp2
        go_round
        case rel => exact ⟨2, by omega, rfl, fun _ => H1.out (by omega), fun _ => hv, by omega⟩
        case measure => decide
      · have hv' : s < 1 ∨ 1048576 < s := by unfold V at hv; omega
        go_wp2
        all_goals go_ret
        all_goals exact ⟨ret_int (chk_no _ _ _ _ (fun k => hv k.2.1)), (Ext.refl w).alloc _⟩
    · by_cases hv : V h
      · have hv' := hv
        unfold V at hv'
        go_wp2
        go_round
        case rel => exact ⟨3, by omega, rfl, fun _ => H1.out (by omega), fun _ => H2.out (by omega), fun _ => hv⟩
        case measure => decide
      · have hv' : h < 1 ∨ 1048576 < h := by unfold V at hv; omega
        go_wp2
        all_goals go_ret
        all_goals exact ⟨ret_int (chk_no _ _ _ _ (fun k => hv k.2.2.1)), (Ext.refl w).alloc _⟩
    · have g1 := H1.out (by omega)
      have g2 := H2.out (by omega)
      have g3 := H3.out (by omega)
      by_cases hv : -1099511627776 ≤ v ∧ v ≤ h
      · go_wp2
        all_goals go_ret
        all_goals exact ⟨ret_int (chk_yes _ _ _ _ ⟨g1, g2, g3, hv⟩), (Ext.refl w).alloc _⟩
      · have hv' : v < -1099511627776 ∨ h < v := by omega
        go_wp2
        all_goals go_ret
        all_goals exact ⟨ret_int (chk_no _ _ _ _ (fun k => hv k.2.2.2)), (Ext.refl w).alloc _⟩

set_option maxHeartbeats 400000 in
theorem fits_any (x : Int) (w : World) :
    Calls Try.prog 17 #[.int .i64 x] w fun e w' => e = .returned (.bool (VB x)) ∧ w = w' := by
  by_cases h1 : 1 ≤ x <;> by_cases h2 : x ≤ 1048576
  all_goals
    first
      | have e1 : decide (1 ≤ x) = true := by simpa using h1
      | have e1 : decide (1 ≤ x) = false := by simpa using h1
    first
      | have e2 : decide (x ≤ 1048576) = true := by simpa using h2
      | have e2 : decide (x ≤ 1048576) = false := by simpa using h2
    go_enter Try.func17, Try.ntmps17
    go_wp2
    go_ret
    exact ⟨ret_bool (by symm; unfold VB; first | (apply decide_eq_true; unfold V; omega) | (apply decide_eq_false; unfold V; omega)), rfl⟩

def zeroC : Value := .agg #[.int .i64 0, .int .i64 0, .int .i64 0, .int .i64 0]
def clV (i s h v : Int) : Value := .agg #[.int .i64 i, .int .i64 s, .int .i64 h, .int .i64 v]
def okB (i s h v : Int) : Bool := decide (okC i s h v)

set_option maxHeartbeats 1000000 in
theorem rmay_any (i s h v : Int) (w : World) :
    Calls Try.prog 8 #[.agg #[.int .i64 i, .int .i64 s, .int .i64 h, .int .i64 v]] w fun e w' => e = .returned (.bool (okB i s h v)) ∧ Ext w w' := by
  obtain ⟨p, hp⟩ : ∃ p, VB i = p := ⟨_, rfl⟩
  obtain ⟨q, hq⟩ : ∃ q, VB s = q := ⟨_, rfl⟩
  obtain ⟨r, hr⟩ : ∃ r, VB h = r := ⟨_, rfl⟩
  have H1 := hid (fun w => calls_eq (fits_any i w) (val_bool hp))
  have H2 := hid (fun w => calls_eq (fits_any s w) (val_bool hq))
  have H3 := hid (fun w => calls_eq (fits_any h w) (val_bool hr))
  have K : Hid (okB i s h v = (p && q && r && decide (-1099511627776 ≤ v) && decide (v ≤ h))) := by
    show okB i s h v = _
    rw [← hp, ← hq, ← hr]
    rw [Bool.eq_iff_iff]
    simp only [VB, decide_eq_true_eq, Bool.and_eq_true, and_assoc]
    exact ⟨fun k => of_decide_eq_true k, fun k => decide_eq_true k⟩
  clear hp hq hr
  cases p <;> cases q <;> cases r <;> by_cases g1 : -1099511627776 ≤ v <;> by_cases g2 : v ≤ h
  all_goals
    first
      | have e1 : decide (-1099511627776 ≤ v) = true := by simpa using g1
      | have e1 : decide (-1099511627776 ≤ v) = false := by simpa using g1
    first
      | have e2 : decide (v ≤ h) = true := by simpa using g2
      | have e2 : decide (v ≤ h) = false := by simpa using g2
    go_enter Try.func8, Try.ntmps8
    go_wp2_with (first
      | (go_at_call 17; ((with_reducible refine (H1.out _).mono ?_); rintro e w1 ⟨rfl, rfl⟩))
      | (go_at_call 17; ((with_reducible refine (H2.out _).mono ?_); rintro e w1 ⟨rfl, rfl⟩))
      | (go_at_call 17; ((with_reducible refine (H3.out _).mono ?_); rintro e w1 ⟨rfl, rfl⟩)))
    go_ret
    exact ⟨ret_bool (by rw [K.out]; simp [e1, e2]), (Ext.refl w).alloc _⟩
end Go.Proofs.Ytpldacdgifekmaa
