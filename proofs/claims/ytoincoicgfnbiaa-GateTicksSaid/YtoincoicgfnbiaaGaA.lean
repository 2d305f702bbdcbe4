/- gate: the plan's numbers. No condition. -/
import Derived.Test.YtoincoicgfnbiaaED
namespace Go.Proofs.Ytoincoicgfnbiaa
set_option linter.unusedVariables false
set_option linter.unusedSimpArgs false
open Go.RowKit E
abbrev gSl (O S : Nat → Int) : Nat → List At := fun k => [.val (.int .u8 (O k)), .val (.int .u64 (S k))]
def cell0 : List At → Int
  | .val (.int _ n) :: _ => n
  | _ => 0
def cell1 : List At → Int
  | _ :: .val (.int _ n) :: _ => n
  | _ => 0
def oOf (g : Nat → List At) : Nat → Int := fun k => cell0 (g k)
def sOf (g : Nat → List At) : Nat → Int := fun k => cell1 (g k)
theorem count_loop {P : Program} {m0 : Nat} {c : Code} (S : Nat → E.St) {X : Ex} {E0 : E.St} {n : Nat} (hX : X ≠ .normal)
    (next : ∀ k, k < n → CodeOk P m0 c (S k) .normal (S (k + 1))) (fin : CodeOk P m0 c (S n) X E0) : CodeOk P m0 (.loop c) (S 0) X E0 := by
  refine loop_ok (α := Nat) S (fun k => k ≤ n) (fun k => n - k) hX ?_ (x := 0) (Nat.zero_le _)
  intro k hk
  by_cases e : k = n
  · subst e; exact .inr fin
  · exact .inl ⟨k + 1, (by omega : k + 1 ≤ n), (by omega : n - (k + 1) < n - k), next k (by omega)⟩
/-- A number of rounds, then out. -/
theorem upto_loop {P : Program} {m0 : Nat} {c : Code} (S : Nat → E.St) {X : Ex} {E0 : E.St} {n : Nat} (hX : X ≠ .normal) (k0 : Nat) (hk0 : k0 ≤ n)
    (next : ∀ k, k < n → CodeOk P m0 c (S k) .normal (S (k + 1))) (fin : CodeOk P m0 c (S n) X E0) : CodeOk P m0 (.loop c) (S k0) X E0 := by
  refine loop_ok (α := Nat) S (fun k => k ≤ n) (fun k => n - k) hX ?_ (x := k0) hk0
  intro k hk
  by_cases e : k = n
  · subst e; exact .inr fin
  · exact .inl ⟨k + 1, (by omega : k + 1 ≤ n), (by omega : n - (k + 1) < n - k), next k (by omega)⟩
/-- The first number for which something is so, if there is one. -/
theorem first_of (p : Nat → Prop) [DecidablePred p] : ∀ n, (∀ k, k < n → ¬ p k) ∨ ∃ k, k < n ∧ p k ∧ ∀ j, j < k → ¬ p j
  | 0 => .inl fun k h => by omega
  | n + 1 => by
    rcases first_of p n with h | ⟨k, h1, h2, h3⟩
    · by_cases q : p n
      · exact .inr ⟨n, by omega, q, h⟩
      · refine .inl fun k hk => ?_
        by_cases e : k = n
        · subst e; exact q
        · exact h k (by omega)
    · exact .inr ⟨k, by omega, h2, h3⟩
abbrev spanOk (x : Int) : Prop := 1 ≤ x ∧ x ≤ 4294967296
def allS (S : Nat → Int) : Nat → Bool
  | 0 => true
  | n + 1 => allS S n && decide (spanOk (S n))
theorem allS_iff {S : Nat → Int} : ∀ {n}, allS S n = true ↔ ∀ k, k < n → spanOk (S k)
  | 0 => by simp [allS]
  | n + 1 => by
    rw [allS, Bool.and_eq_true, allS_iff, decide_eq_true_eq]
    constructor
    · rintro ⟨h1, h2⟩ k hk
      by_cases e : k = n
      · subst e; exact h2
      · exact h1 k (by omega)
    · exact fun h => ⟨fun k hk => h k (by omega), h n (by omega)⟩
def okN (n : Nat) (S : Nat → Int) : Bool := decide (1 ≤ n ∧ n ≤ 64) && allS S n
def chk (n : Nat) (S : Nat → Int) : Int := if okN n S = true then 0 else 6
theorem okN_iff {n : Nat} {S : Nat → Int} : okN n S = true ↔ (1 ≤ n ∧ n ≤ 64) ∧ ∀ k, k < n → spanOk (S k) := by
  unfold okN
  rw [Bool.and_eq_true, decide_eq_true_eq, allS_iff]
theorem chk_ok {n : Nat} {S : Nat → Int} (h : okN n S = true) : chk n S = 0 := by unfold chk; rw [if_pos h]
theorem chk_no {n : Nat} {S : Nat → Int} (h : ¬ okN n S = true) : chk n S = 6 := by unfold chk; rw [if_neg h]
/-- How much the first slots take. -/
def pre (S : Nat → Int) : Nat → Int
  | 0 => 0
  | n + 1 => pre S n + S n
theorem pre_bd {n : Nat} {S : Nat → Int} (h : okN n S = true) : ∀ k, k ≤ n → (k : Int) ≤ pre S k ∧ pre S k ≤ 4294967296 * k
  | 0, _ => by simp [pre]
  | k + 1, hk => by
    have := pre_bd h k (by omega)
    have := (okN_iff.1 h).2 k (by omega)
    simp only [pre, spanOk] at *
    omega
theorem pre_mono {n : Nat} {S : Nat → Int} (h : okN n S = true) : ∀ j k, j ≤ k → k ≤ n → pre S j + ((k - j : Nat) : Int) ≤ pre S k
  | j, 0, h1, _ => by have : j = 0 := by omega
                      subst this; simp
  | j, k + 1, h1, hk => by
    by_cases e : j = k + 1
    · subst e; simp
    · have := pre_mono h j k (by omega) (by omega)
      have := (okN_iff.1 h).2 k (by omega)
      simp only [pre, spanOk] at *
      omega
/-- Which slot a time of the round is in. -/
def sl (S : Nat → Int) (a : Int) : Nat → Nat
  | 0 => 0
  | n + 1 => if pre S n ≤ a then n else sl S a n
theorem sl_spec {S : Nat → Int} {a : Int} (h0 : 0 ≤ a) : ∀ {n}, a < pre S n → sl S a n < n ∧ pre S (sl S a n) ≤ a ∧ a < pre S (sl S a n + 1)
  | 0, h => by simp [pre] at h; omega
  | n + 1, h => by
    unfold sl
    split
    · rename_i q; exact ⟨by omega, q, h⟩
    · have := sl_spec (S := S) h0 (n := n) (by omega)
      exact ⟨by omega, this.2⟩
theorem sl_uniq {n : Nat} {S : Nat → Int} (hok : okN n S = true) {a : Int} {i j : Nat} (hi : i < n) (hj : j < n) (h1 : pre S i ≤ a) (h2 : a < pre S (i + 1)) (h3 : pre S j ≤ a) (h4 : a < pre S (j + 1)) : i = j := by
  rcases Nat.lt_trichotomy i j with h | h | h
  · have := pre_mono hok (i + 1) j (by omega) (by omega); omega
  · exact h
  · have := pre_mono hok (j + 1) i (by omega) (by omega); omega
theorem round_pos {n : Nat} {S : Nat → Int} (h : okN n S = true) : 1 ≤ pre S n ∧ pre S n ≤ 274877906944 := by
  have := pre_bd h n (Nat.le_refl _)
  have := (okN_iff.1 h).1
  omega
/-- The slot of a time. -/
def slt (n : Nat) (S : Nat → Int) (t : Int) : Nat := sl S (t % pre S n) n
theorem slt_spec {n : Nat} {S : Nat → Int} (h : okN n S = true) (t : Int) : slt n S t < n ∧ pre S (slt n S t) ≤ t % pre S n ∧ t % pre S n < pre S (slt n S t + 1) := by
  have := round_pos h
  exact sl_spec (Int.emod_nonneg _ (by omega)) (Int.emod_lt_of_pos _ (by omega))
/-- Is a class open in what a slot says? -/
def opB (o c : Int) : Bool := bits .and .u8 (o.fdiv (2 ^ min c.toNat 8)) 1 == 1
def opZ (o c : Int) : Bool := bits .and .u8 (o.fdiv (2 ^ min c.toNat 8)) 1 == 0
end Go.Proofs.Ytoincoicgfnbiaa
