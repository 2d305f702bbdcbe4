/- Credit: the states of CreditBounds, and its plain numbers. No condition. -/
import Derived.Test.YtpldacdgifekmaaCrI
namespace Go.Proofs.Ytpldacdgifekmaa
set_option linter.unusedVariables false
set_option linter.unusedSimpArgs false
open Go.RowKit E

def boundsS (m : Int) (len : Nat) (t x : Nat → Int) (wt : Nat → Bool) (k : Nat) (i s h v : Int) : St :=
  mkSt 112 [(1, .nv (.one (.val (.int .u16 m)))), (10, .nv (.one (.ptr 2 0))), (46, .nv (.one (.own 0))), (47, iA len), (48, iA k)] [.ro 3 len (actsG t x wt), .gone, .box 26 (clC i s h v)]
def boundsE : St := mkSt 112 [] [.gone]

theorem okB_iff {i s h v : Int} : okB i s h v = true ↔ (1 ≤ i ∧ i ≤ 1048576) ∧ (1 ≤ s ∧ s ≤ 1048576) ∧ (1 ≤ h ∧ h ≤ 1048576) ∧ -1099511627776 ≤ v ∧ v ≤ h := by
  exact ⟨fun k => of_decide_eq_true k, fun k => decide_eq_true (show okC i s h v from k)⟩
theorem prod_bd {s m : Int} (hs : 1 ≤ s ∧ s ≤ 1048576) (hm : 0 ≤ m ∧ m ≤ 65535) : 0 ≤ s * m ∧ s * m ≤ 68718428160 := by
  constructor
  · exact Int.mul_nonneg (by omega) hm.1
  · have h1 : s * m ≤ 1048576 * m := Int.mul_le_mul_of_nonneg_right hs.2 hm.1
    omega

/-- Behind a tick: it may be, and has not less than it had, or than nought. -/
theorem tick_bd {i s h v t : Int} {wt : Bool} (k : okB i s h v = true) (ht : 0 ≤ t) : okB i s h (tickH i h v t wt) = true ∧ (v ≤ tickH i h v t wt ∨ 0 ≤ tickH i h v t wt) := by
  obtain ⟨h1, h2, h3, h4⟩ := okB_iff.1 k
  have hp : 0 ≤ i * t := Int.mul_nonneg (by omega) ht
  rw [okB_iff]
  unfold tickH earn
  cases wt
  · simp only [Bool.false_eq_true, if_false]
    split
    · split <;> refine ⟨⟨h1, h2, h3, by omega, by omega⟩, by omega⟩
    · exact ⟨⟨h1, h2, h3, by omega, by omega⟩, by omega⟩
  · simp only [if_true]
    split <;> exact ⟨⟨h1, h2, h3, by omega, by omega⟩, by omega⟩

theorem wait_bd {i s h v : Int} (k : okB i s h v = true) : 0 ≤ waitV i s h v ∧ waitV i s h v ≤ 1099511627776 ∧ (0 < waitV i s h v ↔ v < 0) := by
  obtain ⟨h1, h2, h3, h4⟩ := okB_iff.1 k
  have hk : okC i s h v := of_decide_eq_true k
  unfold waitV
  by_cases hv : v < 0
  · rw [if_pos ⟨hk, hv⟩]
    unfold waitC
    have h5 := ceil_bd (-v) i h1.1 (by omega)
    have h6 := ceil_le (-v) i 0 h1.1
    rw [Int.mul_zero] at h6
    have : ¬ (-v + i - 1) / i ≤ 0 := fun q => by have := h6.1 q; omega
    omega
  · rw [if_neg (fun q => hv q.2)]
    omega
theorem wait_may {i s h v : Int} (k : okB i s h v = true) : mayB i s h (tickH i h v (waitV i s h v) true) = true := by
  obtain ⟨h1, h2, h3, h4⟩ := okB_iff.1 k
  have hk : okC i s h v := of_decide_eq_true k
  have hw := wait_bd k
  rw [mayB_ok, (tick_bd k hw.1).1, Bool.true_and, decide_eq_true_eq]
  unfold tickH earn
  simp only [if_true]
  by_cases hv : v < 0
  · have e : waitV i s h v = (-v + i - 1) / i := by unfold waitV waitC; rw [if_pos ⟨hk, hv⟩]
    have := (ceil_le (-v) i (waitV i s h v) h1.1).1 (by rw [e]; omega)
    split <;> omega
  · have hp : 0 ≤ i * waitV i s h v := Int.mul_nonneg (by omega) hw.1
    split <;> omega
theorem wait_not {i s h v : Int} (k : okB i s h v = true) (hq : 0 < waitV i s h v) : mayB i s h (tickH i h v (waitV i s h v - 1) true) = false := by
  obtain ⟨h1, h2, h3, h4⟩ := okB_iff.1 k
  have hk : okC i s h v := of_decide_eq_true k
  have hw := wait_bd k
  have hv : v < 0 := hw.2.2.1 hq
  rw [mayB_ok, (tick_bd k (by omega)).1, Bool.true_and, decide_eq_false_iff_not]
  have e : waitV i s h v = (-v + i - 1) / i := by unfold waitV waitC; rw [if_pos ⟨hk, hv⟩]
  have := mt (ceil_le (-v) i (waitV i s h v - 1) h1.1).2 (by rw [e]; omega)
  unfold tickH earn
  simp only [if_true]
  split <;> omega
theorem sent_bd2 {i s h v m n : Int} (k : okB i s h v = true) (hm : 0 ≤ m ∧ m ≤ 65535) (hn : 0 ≤ n ∧ n ≤ m) (hv : -(s * m) ≤ v) : okB i s h (sentH i s h v n) = true ∧ -(s * m) ≤ sentH i s h v n ∧ sentH i s h v n ≤ h := by
  obtain ⟨h1, h2, h3, h4⟩ := okB_iff.1 k
  have hb := prod_bd h2 hm
  have hbn := prod_bd h2 (m := n) (by omega)
  have hle : s * n ≤ s * m := Int.mul_le_mul_of_nonneg_left hn.2 (by omega)
  rw [okB_iff]
  unfold sentH
  rw [ifc_t _ k]
  split
  · exact ⟨⟨h1, h2, h3, by omega, by omega⟩, by omega, by omega⟩
  · exact ⟨⟨h1, h2, h3, by omega, by omega⟩, by omega, by omega⟩
end Go.Proofs.Ytpldacdgifekmaa
