/- Ranks: what lies in memory. No condition. -/
import Derived.Test.YtkgkelfdmkginaaRkC
namespace Go.Proofs.Ytkgkelfdmkginaa
set_option linter.unusedVariables false
set_option linter.unusedSimpArgs false
open Go.RowKit E

abbrev flA (i c b s p : Int) : List At := [.val (.int .u32 i), .val (.int .u64 c), .val (.int .u64 b), .val (.int .u64 s), .val (.int .u64 p)]
/-- Flows. -/
structure Fl where
  id : Nat → Int
  co : Nat → Int
  bu : Nat → Int
  si : Nat → Int
  ca : Nat → Int
abbrev gFl (F : Fl) : Nat → List At := fun k => flA (F.id k) (F.co k) (F.bu k) (F.si k) (F.ca k)
abbrev gU64 (T : Nat → Int) : Nat → List At := fun k => [.val (.int .u64 (T k))]
abbrev gU32 (T : Nat → Int) : Nat → List At := fun k => [.val (.int .u32 (T k))]
/-- The j-th number of a list of cells. -/
def cellJ : List At → Nat → Int
  | [], _ => 0
  | .val (.int _ n) :: _, 0 => n
  | _ :: _, 0 => 0
  | _ :: l, j + 1 => cellJ l j
def flOf (g : Nat → List At) : Fl := ⟨fun k => cellJ (g k) 0, fun k => cellJ (g k) 1, fun k => cellJ (g k) 2, fun k => cellJ (g k) 3, fun k => cellJ (g k) 4⟩
def colOf (g : Nat → List At) : Nat → Int := fun k => cellJ (g k) 0

/-- The first place of a number among n; -1: there is none. -/
def idx (T : Nat → Int) (x : Int) : Nat → Int
  | 0 => -1
  | n + 1 => if 0 ≤ idx T x n then idx T x n else if T n = x then n else -1
theorem idx_bd (T : Nat → Int) (x : Int) : ∀ n, -1 ≤ idx T x n ∧ idx T x n < n
  | 0 => ⟨by simp [idx], by simp [idx]⟩
  | n + 1 => by
    have := idx_bd T x n
    unfold idx
    split
    · omega
    · split <;> omega
theorem idx_stay (T : Nat → Int) (x : Int) {k : Nat} (h : 0 ≤ idx T x k) : ∀ n, k ≤ n → idx T x n = idx T x k
  | 0, hk => by have : k = 0 := by omega
                subst this; rfl
  | n + 1, hk => by
    by_cases e : k = n + 1
    · subst e; rfl
    · have q := idx_stay T x h n (by omega)
      show (if 0 ≤ idx T x n then idx T x n else if T n = x then (n : Int) else -1) = _
      rw [q, if_pos h]
theorem idx_next {T : Nat → Int} {x : Int} {k : Nat} (h : idx T x k = -1) (hx : T k ≠ x) : idx T x (k + 1) = -1 := by
  unfold idx
  rw [if_neg (by omega), if_neg hx]
theorem idx_hit {T : Nat → Int} {x : Int} {k n : Nat} (h : idx T x k = -1) (hx : T k = x) (hk : k < n) : idx T x n = k := by
  have h1 : idx T x (k + 1) = k := by
    unfold idx
    rw [if_neg (by omega), if_pos hx]
  rw [idx_stay T x (k := k + 1) (by omega) n (by omega), h1]
theorem idx_at {T : Nat → Int} {x : Int} : ∀ {n : Nat}, 0 ≤ idx T x n → T (idx T x n).toNat = x
  | 0, h => by simp [idx] at h
  | n + 1, h => by
    unfold idx at h ⊢
    split
    · rename_i q; exact idx_at q
    · rename_i q
      rw [if_neg q] at h
      split
      · rename_i e; simpa using e
      · rename_i e; rw [if_neg e] at h; omega
theorem idx_none {T : Nat → Int} {x : Int} : ∀ {n : Nat}, idx T x n = -1 → ∀ k, k < n → T k ≠ x
  | 0, _, k, hk => by omega
  | n + 1, h, k, hk => by
    have h0 := idx_bd T x n
    unfold idx at h
    split at h
    · omega
    · split at h
      · omega
      · rename_i q e
        by_cases ek : k = n
        · subst ek; exact e
        · exact idx_none (n := n) (by omega) k (by omega)
theorem idx_some {T : Nat → Int} {x : Int} : ∀ {n i : Nat}, idx T x n = i → i < n ∧ T i = x ∧ ∀ k, k < i → T k ≠ x
  | 0, i, h => by simp [idx] at h
  | n + 1, i, h => by
    have h0 := idx_bd T x n
    unfold idx at h
    split at h
    · obtain ⟨a, b, c⟩ := idx_some h
      exact ⟨by omega, b, c⟩
    · split at h
      · rename_i q e
        have : i = n := by omega
        subst this
        exact ⟨by omega, e, idx_none (n := i) (by omega)⟩
      · rename_i q e; simp at h
/-- A loop that looks for a number: it goes on while it is not there. -/
theorem search_loop {P : Program} {m0 : Nat} {c : Code} (S : Nat → E.St) {X : Ex} {E0 : E.St} (R : Nat → E.St) {n : Nat} {T : Nat → Int} {x : Int} (hX : X ≠ .normal)
    (next : ∀ k, k < n → T k ≠ x → CodeOk P m0 c (S k) .normal (S (k + 1))) (hit : ∀ k, k < n → T k = x → CodeOk P m0 c (S k) .ret (R k)) (fin : CodeOk P m0 c (S n) X E0) :
    (idx T x n = -1 → CodeOk P m0 (.loop c) (S 0) X E0) ∧ ∀ i : Nat, idx T x n = i → CodeOk P m0 (.loop c) (S 0) .ret (R i) := by
  constructor
  · intro h
    refine loop_ok (α := Nat) S (fun k => k ≤ n) (fun k => n - k) hX ?_ (x := 0) (Nat.zero_le _)
    intro k hk
    by_cases e : k = n
    · subst e; exact .inr fin
    · exact .inl ⟨k + 1, (by omega : k + 1 ≤ n), (by omega : n - (k + 1) < n - k), next k (by omega) (idx_none h k (by omega))⟩
  · intro i h
    obtain ⟨h1, h2, h3⟩ := idx_some h
    refine loop_ok (α := Nat) S (fun k => k ≤ i) (fun k => i - k) (by simp) ?_ (x := 0) (Nat.zero_le _)
    intro k hk
    by_cases e : k = i
    · subst e; exact .inr (hit k h1 h2)
    · exact .inl ⟨k + 1, (by omega : k + 1 ≤ i), (by omega : i - (k + 1) < i - k), next k (by omega) (h3 k (by omega))⟩
/-- A loop that counts to n. -/
theorem count_loop {P : Program} {m0 : Nat} {c : Code} (S : Nat → E.St) {X : Ex} {E0 : E.St} {n : Nat} (hX : X ≠ .normal)
    (next : ∀ k, k < n → CodeOk P m0 c (S k) .normal (S (k + 1))) (fin : CodeOk P m0 c (S n) X E0) : CodeOk P m0 (.loop c) (S 0) X E0 := by
  refine loop_ok (α := Nat) S (fun k => k ≤ n) (fun k => n - k) hX ?_ (x := 0) (Nat.zero_le _)
  intro k hk
  by_cases e : k = n
  · subst e; exact .inr fin
  · exact .inl ⟨k + 1, (by omega : k + 1 ≤ n), (by omega : n - (k + 1) < n - k), next k (by omega)⟩
/-- A loop that counts up to a place at which it ends. -/
theorem upto_loop {P : Program} {m0 : Nat} {c : Code} (S : Nat → E.St) {X : Ex} {E0 : E.St} {i : Nat} (hX : X ≠ .normal)
    (next : ∀ k, k < i → CodeOk P m0 c (S k) .normal (S (k + 1))) (fin : CodeOk P m0 c (S i) X E0) : CodeOk P m0 (.loop c) (S 0) X E0 := count_loop S hX next fin

/-- Is one among the first n twice? -/
def dup (T : Nat → Int) : Nat → Bool
  | 0 => false
  | n + 1 => dup T n || decide (0 ≤ idx T (T n) n)
theorem dup_false {T : Nat → Int} : ∀ {n : Nat}, dup T n = false → ∀ i, i < n → idx T (T i) i = -1
  | 0, _, i, hi => by omega
  | n + 1, h, i, hi => by
    simp only [dup, Bool.or_eq_false_iff, decide_eq_false_iff_not] at h
    by_cases e : i = n
    · subst e
      have := idx_bd T (T i) i
      omega
    · exact dup_false h.1 i (by omega)
/-- The first that is there already. -/
theorem dup_true {T : Nat → Int} : ∀ {n : Nat}, dup T n = true → ∃ i, i < n ∧ 0 ≤ idx T (T i) i ∧ ∀ k, k < i → idx T (T k) k = -1
  | 0, h => by cases h
  | n + 1, h => by
    by_cases e : dup T n = true
    · obtain ⟨i, h1, h2, h3⟩ := dup_true e
      exact ⟨i, by omega, h2, h3⟩
    · have e' : dup T n = false := by simpa using e
      simp only [dup, e', Bool.false_or, decide_eq_true_eq] at h
      exact ⟨n, by omega, h, dup_false e'⟩
end Go.Proofs.Ytkgkelfdmkginaa
