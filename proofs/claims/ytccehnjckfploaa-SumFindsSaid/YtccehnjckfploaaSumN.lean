import Derived.Test.YtccehnjckfploaaSumM
namespace Go.Proofs.Ytccehnjckfploaa
set_option linter.unusedVariables false
set_option linter.unusedSimpArgs false

/-- The sum of a row's words. -/
def wsum : List UInt8 → Int
  | a :: b :: l => (a.toNat : Int) * 256 + (b.toNat : Int) + wsum l
  | [a] => (a.toNat : Int) * 256
  | [] => 0

def norm (x : Int) : Int := if x = 0 then 0 else (x - 1) % 65535 + 1

theorem wsum_nn (l : List UInt8) : 0 ≤ wsum l := by
  fun_induction wsum l with
  | case1 a b l ih => omega
  | case2 a => omega
  | case3 => omega

theorem norm_bd (x : Int) (h : 0 ≤ x) : 0 ≤ norm x ∧ norm x ≤ 65535 := by unfold norm; split <;> omega
theorem norm_id (x : Int) (h : 0 ≤ x ∧ x ≤ 65535) : norm x = x := by unfold norm; split <;> omega
theorem ringI_norm (a b : Int) (ha : 0 ≤ a ∧ a ≤ 65535) (hb : 0 ≤ b ∧ b ≤ 65535) : ringI a b = norm (a + b) := by
  unfold ringI norm; split <;> split <;> omega
theorem norm_norm (x b : Int) (hx : 0 ≤ x) (hb : 0 ≤ b) : norm (norm x + b) = norm (x + b) := by
  unfold norm; split <;> split <;> split <;> omega

theorem inetL_norm (l : List UInt8) : ∀ n : Int, 0 ≤ n → inetL (norm n) l = norm (n + wsum l) := by
  intro n hn
  induction l using wsum.induct generalizing n with
  | case1 a b l ih =>
    have ha := bytes_bd a
    have hb := bytes_bd b
    have h1 := norm_bd n hn
    show inetL (ringI (norm n) _) l = _
    rw [ringI_norm _ _ h1 (by omega), norm_norm _ _ hn (by omega), ih _ (by omega)]
    congr 1
    simp only [wsum]; omega
  | case2 a =>
    have ha := bytes_bd a
    have h1 := norm_bd n hn
    show ringI (norm n) _ = _
    rw [ringI_norm _ _ h1 (by omega), norm_norm _ _ hn (by omega)]; rfl
  | case3 => simp [inetL, wsum]

theorem inet0 (l : List UInt8) : inetL 0 l = norm (wsum l) := by
  have h0 := inetL_norm l 0 (by omega)
  rw [show norm 0 = 0 from rfl, Int.zero_add] at h0
  exact h0

/-- The word at an even place. -/
def wordAt (l : List UInt8) (k : Nat) : Int := ((l.getD k 0).toNat : Int) * 256 + ((l.getD (k + 1) 0).toNat : Int)

theorem wsum_set (p : Nat) : ∀ (l : List UInt8) (a b : UInt8), 2 * p + 1 < l.length →
    wsum ((l.set (2 * p) a).set (2 * p + 1) b) = wsum l - wordAt l (2 * p) + ((a.toNat : Int) * 256 + (b.toNat : Int)) := by
  induction p with
  | zero =>
    intro l a b h
    match l, h with
    | x :: y :: l, _ => simp [wsum, wordAt]; omega
  | succ p ih =>
    intro l a b h
    match l, h with
    | x :: y :: l, h =>
      have e : 2 * (p + 1) = 2 * p + 2 := by omega
      have := ih l a b (by simp at h; omega)
      rw [e]
      simp only [List.set_cons_succ, wsum, this]
      have e2 : wordAt (x :: y :: l) (2 * p + 2) = wordAt l (2 * p) := rfl
      rw [e2]; omega
    | [x], h => simp at h
    | [], h => simp at h

theorem word_le (p : Nat) : ∀ (l : List UInt8), 2 * p + 1 < l.length → 0 ≤ wordAt l (2 * p) ∧ wordAt l (2 * p) ≤ wsum l ∧ wordAt l (2 * p) ≤ 65535 := by
  induction p with
  | zero =>
    intro l h
    match l, h with
    | x :: y :: l, _ =>
      have := wsum_nn l; have h1 := bytes_bd x; have h2 := bytes_bd y
      simp [wsum, wordAt]; omega
  | succ p ih =>
    intro l h
    match l, h with
    | x :: y :: l, h =>
      have := ih l (by simp at h; omega)
      have e : wordAt (x :: y :: l) (2 * (p + 1)) = wordAt l (2 * p) := rfl
      rw [e]
      simp only [wsum]; omega
    | [x], h => simp at h
    | [], h => simp at h

/-- P5.5. -/
theorem nought (t : List UInt8) (p : Nat) (a b : UInt8) (h : 2 * p + 1 < t.length) (h0 : wordAt t (2 * p) = 0)
    (hab : (a.toNat : Int) * 256 + (b.toNat : Int) = 65535 - inetL 0 t) : 65535 - inetL 0 ((t.set (2 * p) a).set (2 * p + 1) b) = 0 := by
  have hs := wsum_set p t a b h
  have hn := wsum_nn t
  rw [inet0] at *
  rw [hs, hab, h0]
  unfold norm; split <;> split <;> omega

/-- P5.4. -/
theorem updates (s : List UInt8) (p : Nat) (a b : UInt8) (is : Int) (h : 2 * p + 1 < s.length) (hab : (a.toNat : Int) * 256 + (b.toNat : Int) = is) :
    wsum ((s.set (2 * p) a).set (2 * p + 1) b) ≠ 0 →
    65535 - ringI (ringI (65535 - (65535 - inetL 0 s)) (65535 - wordAt s (2 * p))) is = 65535 - inetL 0 ((s.set (2 * p) a).set (2 * p + 1) b) := by
  have hs := wsum_set p s a b h
  have hn := wsum_nn s
  have hw := word_le p s h
  have hi : 0 ≤ is ∧ is ≤ 65535 := by have := bytes_bd a; have := bytes_bd b; omega
  intro hz
  rw [inet0, inet0]
  have b1 := norm_bd (wsum s) hn
  have e1 : 65535 - (65535 - norm (wsum s)) = norm (wsum s) := by omega
  rw [e1, ringI_norm _ _ b1 (by omega), ringI_norm _ _ (norm_bd _ (by omega)) hi, norm_norm _ _ (by omega) hi.1]
  rw [hs, hab] at hz
  rw [hs, hab]
  unfold norm; split <;> split <;> omega
theorem updates0 (s : List UInt8) (p : Nat) (a b : UInt8) (is : Int) (h : 2 * p + 1 < s.length) (hab : (a.toNat : Int) * 256 + (b.toNat : Int) = is) :
    wsum ((s.set (2 * p) a).set (2 * p + 1) b) = 0 →
    65535 - ringI (ringI (65535 - (65535 - inetL 0 s)) (65535 - wordAt s (2 * p))) is = 0 ∧ 65535 - inetL 0 ((s.set (2 * p) a).set (2 * p + 1) b) = 65535 := by
  have hs := wsum_set p s a b h
  have hn := wsum_nn s
  have hw := word_le p s h
  have hi : 0 ≤ is ∧ is ≤ 65535 := by have := bytes_bd a; have := bytes_bd b; omega
  intro hz
  rw [inet0, inet0, hz]
  have b1 := norm_bd (wsum s) hn
  have e1 : 65535 - (65535 - norm (wsum s)) = norm (wsum s) := by omega
  rw [e1, ringI_norm _ _ b1 (by omega), ringI_norm _ _ (norm_bd _ (by omega)) hi, norm_norm _ _ (by omega) hi.1]
  rw [hs, hab] at hz
  have e2 : wsum s = wordAt s (2 * p) ∧ is = 0 := by omega
  rw [← e2.1, e2.2]
  unfold norm; split <;> split <;> omega

theorem wsum_zero (l : List UInt8) : wsum l = 0 ↔ l.all (· == 0) = true := by
  induction l using wsum.induct with
  | case1 a b l ih =>
    have h1 := bytes_bd a; have h2 := bytes_bd b; have h3 := wsum_nn l
    have ea : (a == 0) = decide ((a.toNat : Int) = 0) := by rw [Bool.eq_iff_iff]; simp [← UInt8.toNat_inj]
    have eb : (b == 0) = decide ((b.toNat : Int) = 0) := by rw [Bool.eq_iff_iff]; simp [← UInt8.toNat_inj]
    simp only [wsum, List.all_cons, ea, eb, Bool.and_eq_true, decide_eq_true_eq, ← ih]
    omega
  | case2 a =>
    have ea : (a == 0) = decide ((a.toNat : Int) = 0) := by rw [Bool.eq_iff_iff]; simp [← UInt8.toNat_inj]
    simp only [wsum, List.all_cons, List.all_nil, ea, Bool.and_true, decide_eq_true_eq]
    omega
  | case3 => simp [wsum]
end Go.Proofs.Ytccehnjckfploaa
