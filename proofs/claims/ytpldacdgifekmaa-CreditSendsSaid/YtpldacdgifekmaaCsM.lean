/- Credit: the states of CreditSends, and its plain numbers. No condition. -/
import Derived.Test.YtpldacdgifekmaaCbM
namespace Go.Proofs.Ytpldacdgifekmaa
set_option linter.unusedVariables false
set_option linter.unusedSimpArgs false
open Go.RowKit E

def oneG (f : Nat → Int) : Nat → List At := fun k => [.val (.int .i64 (f k))]
def sendsS (m : Int) (len : Nat) (t x : Nat → Int) (wt : Nat → Bool) (k : Nat) (i s h v : Int) (co er : Nat → Int) : St :=
  mkSt 142 [(1, .nv (.one (.val (.int .u16 m)))), (10, .nv (.one (.ptr 2 0))), (12, .nv (.one (.own 3))), (13, .nv (.one (.own 4))), (56, .nv (.one (.own 0))), (57, iA len), (58, iA k)]
    [.ro 3 len (actsG t x wt), .gone, .box 26 (clC i s h v), .row 2 1 k (oneG co), .row 2 1 k (oneG er)]
def sendsM (m : Int) (n : Nat) (i s h v : Int) (co er : Nat → Int) : St :=
  mkSt 142 [(1, .nv (.one (.val (.int .u16 m)))), (10, .nv (.one (.ptr 1 0))), (12, .nv (.one (.own 2))), (13, .nv (.one (.own 3)))]
    [.gone, .box 26 (clC i s h v), .row 2 1 n (oneG co), .row 2 1 n (oneG er)]
def sendsO (m : Int) (n : Nat) (i s h v : Int) (co er : Nat → Int) (j : Nat) : St :=
  mkSt 142 [(1, .nv (.one (.val (.int .u16 m)))), (10, .nv (.one (.ptr 1 0))), (12, .nv (.one (.own 2))), (13, .nv (.one (.own 3))), (103, iA n), (104, iA j)]
    [.gone, .box 26 (clC i s h v), .row 2 1 n (oneG co), .row 2 1 n (oneG er)]
def sendsI (m : Int) (n : Nat) (i s h v : Int) (co er : Nat → Int) (j k : Nat) (sum may : Int) : St :=
  mkSt 142 [(1, .nv (.one (.val (.int .u16 m)))), (10, .nv (.one (.ptr 1 0))), (12, .nv (.one (.own 2))), (13, .nv (.one (.own 3))), (103, iA n), (104, iA j), (21, iA j), (22, iA sum), (23, iA may), (24, iA k)]
    [.gone, .box 26 (clC i s h v), .row 2 1 n (oneG co), .row 2 1 n (oneG er)]
def sendsE : St := mkSt 142 [] [.gone]

def stepT (t : Nat → Int) (k : Nat) : Int := Int.tmod (t k) 1073741824
def stepN (m : Int) (x : Nat → Int) (k : Nat) : Int := Int.tmod (x k) (m + 1)
section
variable (i s h m : Int) (t x : Nat → Int) (wt : Nat → Bool)
def vv : Nat → Int
  | 0 => 0
  | k + 1 => sentH i s h (tickH i h (vv k) (stepT t k) (wt k)) (stepN m x k)
def aa (k : Nat) : Int := tickH i h (vv i s h m t x wt k) (stepT t k) (wt k)
def co (k : Nat) : Int := if sentB i s h (aa i s h m t x wt k) (stepN m x k) then s * stepN m x k else 0
def er (k : Nat) : Int := i * stepT t k
end

variable {i s h m : Int} {t x : Nat → Int} {wt : Nat → Bool} {len : Nat}
theorem stepT_bd {k : Nat} (bt : 0 ≤ t k) : 0 ≤ stepT t k ∧ stepT t k < 1073741824 := ⟨Int.tmod_nonneg _ bt, Int.tmod_lt_of_pos _ (by omega)⟩
theorem stepN_bd {k : Nat} (bx : 0 ≤ x k) (hm : 0 ≤ m) : 0 ≤ stepN m x k ∧ stepN m x k ≤ m := by
  have := Int.tmod_nonneg (m + 1) bx
  have := Int.tmod_lt_of_pos (x k) (show 0 < m + 1 by omega)
  unfold stepN
  omega
theorem tick_le {i s h v t : Int} {wt : Bool} (k : okB i s h v = true) (ht : 0 ≤ t) : tickH i h v t wt ≤ v + i * t := by
  obtain ⟨h1, h2, h3, h4⟩ := okB_iff.1 k
  have hp : 0 ≤ i * t := Int.mul_nonneg (by omega) ht
  unfold tickH earn
  cases wt
  · simp only [Bool.false_eq_true, if_false]
    split
    · split <;> omega
    · omega
  · simp only [if_true]
    split <;> omega
/-- What a class has, whenever. -/
theorem vv_bd (bt : ∀ k, k < len → 0 ≤ t k) (bx : ∀ k, k < len → 0 ≤ x k) (hm : 0 ≤ m ∧ m ≤ 65535) (k1 : okB i s h 0 = true) : ∀ k, k ≤ len → okB i s h (vv i s h m t x wt k) = true ∧ -(s * m) ≤ vv i s h m t x wt k
  | 0, _ => by
    obtain ⟨h1, h2, h3, _⟩ := okB_iff.1 k1
    have hpb := prod_bd h2 hm
    exact ⟨k1, by show -(s * m) ≤ 0; omega⟩
  | k + 1, hk => by
    obtain ⟨h1, h2, h3, _⟩ := okB_iff.1 k1
    have hpb := prod_bd h2 hm
    obtain ⟨q1, q2⟩ := vv_bd bt bx hm k1 k (by omega)
    obtain ⟨k2, hv2⟩ := tick_bd (wt := wt k) q1 (stepT_bd (bt k (by omega))).1
    have := sent_bd2 k2 hm (stepN_bd (bx k (by omega)) hm.1) (by omega)
    exact ⟨this.1, this.2.1⟩
theorem aa_bd (bt : ∀ k, k < len → 0 ≤ t k) (bx : ∀ k, k < len → 0 ≤ x k) (hm : 0 ≤ m ∧ m ≤ 65535) (k1 : okB i s h 0 = true) {k : Nat} (hk : k < len) : okB i s h (aa i s h m t x wt k) = true ∧ aa i s h m t x wt k ≤ vv i s h m t x wt k + er i t k :=
  ⟨(tick_bd (vv_bd bt bx hm k1 k (by omega)).1 (stepT_bd (bt k hk)).1).1, tick_le (vv_bd bt bx hm k1 k (by omega)).1 (stepT_bd (bt k hk)).1⟩
theorem vv_step (bx : ∀ k, k < len → 0 ≤ x k) (hm : 0 ≤ m ∧ m ≤ 65535) {k : Nat} (hk : k < len) (hok : okB i s h (aa i s h m t x wt k) = true) : vv i s h m t x wt (k + 1) = aa i s h m t x wt k - co i s h m t x wt k := by
  show sentH i s h (aa i s h m t x wt k) (stepN m x k) = _
  have hn := stepN_bd (bx k hk) hm.1
  have hc : okC i s h (aa i s h m t x wt k) := of_decide_eq_true hok
  unfold co sentH sentB
  rw [ifc_t _ hok]
  by_cases e : aa i s h m t x wt k < 0
  · rw [if_pos (.inl e), if_neg (by simp only [decide_eq_true_eq]; omega)]; omega
  · rw [if_neg (by omega), if_pos (by simp only [decide_eq_true_eq]; exact ⟨hc, by omega, by omega⟩)]
theorem co_bd (bx : ∀ k, k < len → 0 ≤ x k) (hm : 0 ≤ m ∧ m ≤ 65535) (k1 : okB i s h 0 = true) {k : Nat} (hk : k < len) : 0 ≤ co i s h m t x wt k ∧ co i s h m t x wt k ≤ 68718428160 := by
  obtain ⟨h1, h2, h3, _⟩ := okB_iff.1 k1
  have hn := stepN_bd (bx k hk) hm.1
  have := prod_bd h2 (m := stepN m x k) (by omega)
  unfold co
  split <;> omega
theorem er_bd (bt : ∀ k, k < len → 0 ≤ t k) (k1 : okB i s h 0 = true) {k : Nat} (hk : k < len) : 0 ≤ er i t k ∧ er i t k ≤ 1125899906842624 := by
  obtain ⟨h1, h2, h3, _⟩ := okB_iff.1 k1
  have ht := stepT_bd (bt k hk)
  have q1 : 0 ≤ i * stepT t k := Int.mul_nonneg (by omega) ht.1
  have q2 : i * stepT t k ≤ 1048576 * stepT t k := Int.mul_le_mul_of_nonneg_right h1.2 ht.1
  unfold er
  omega
theorem join_one (f : Nat → Int) (k : Nat) (g : Nat → List At) (hg : ∀ i, i < k + 1 → g i = oneG f i) : True := trivial
end Go.Proofs.Ytpldacdgifekmaa
