/- Credit, in plain numbers. No program here. -/
namespace Go.Proofs.Ytpldacdgifekmaa
set_option linter.unusedVariables false

def V (x : Int) : Prop := 1 ≤ x ∧ x ≤ 1048576
instance (x : Int) : Decidable (V x) := inferInstanceAs (Decidable (_ ∧ _))
def VB (x : Int) : Bool := decide (V x)
/-- May a class be? -/
def okC (i s h v : Int) : Prop := V i ∧ V s ∧ V h ∧ -1099511627776 ≤ v ∧ v ≤ h
instance (i s h v : Int) : Decidable (okC i s h v) := inferInstanceAs (Decidable (_ ∧ _))

/-- What Check says. -/
def chkC (i s h v : Int) : Int := if okC i s h v then 0 else 6
theorem chk_yes (i s h v : Int) (hh : okC i s h v) : 0 = chkC i s h v := by rw [chkC, if_pos hh]
theorem chk_no (i s h v : Int) (hh : ¬ okC i s h v) : 6 = chkC i s h v := by rw [chkC, if_neg hh]

theorem ceil_le (x i t : Int) (hi : 1 ≤ i) : (x + i - 1) / i ≤ t ↔ x ≤ i * t := by
  have h1 := Int.mul_ediv_add_emod (x + i - 1) i
  have h2 := Int.emod_nonneg (x + i - 1) (show i ≠ 0 by omega)
  have h3 := Int.emod_lt_of_pos (x + i - 1) (show 0 < i by omega)
  generalize (x + i - 1) / i = q at *
  generalize (x + i - 1) % i = r at *
  constructor
  · intro h
    have := Int.mul_le_mul_of_nonneg_left h (show 0 ≤ i by omega)
    omega
  · intro h
    by_cases hq : q ≤ t
    · exact hq
    · have h4 : t + 1 ≤ q := by omega
      have := Int.mul_le_mul_of_nonneg_left h4 (show 0 ≤ i by omega)
      rw [Int.mul_add] at this
      omega

/-- What a class has, that earns up to a bound. -/
def earn (i v bound t : Int) : Int := if bound ≤ v + i * t then bound else v + i * t
def tickH (i h v t : Int) (waits : Bool) : Int := if waits then earn i v h t else if v < 0 then earn i v 0 t else 0

/-- How long a class waits. -/
def waitC (i v : Int) : Int := (-v + i - 1) / i

theorem ceil_bd (x i : Int) (hi : 1 ≤ i) (hx : 0 ≤ x) : 0 ≤ (x + i - 1) / i ∧ (x + i - 1) / i ≤ x := by
  refine ⟨Int.ediv_nonneg (by omega) (by omega), ?_⟩
  rw [ceil_le x i x hi]
  have := Int.mul_le_mul_of_nonneg_right hi hx
  omega

theorem earn_ceil (i v bound t : Int) (hi : 1 ≤ i) : earn i v bound t = if (bound - v + i - 1) / i ≤ t then bound else v + i * t := by
  have := ceil_le (bound - v) i t hi
  unfold earn
  split <;> split <;> omega

theorem div_ceil (x i : Int) (hi : 1 ≤ i) (hx : 0 ≤ x) : (x + i - 1) / i = if x / i * i < x then x / i + 1 else x / i := by
  have h1 := Int.mul_ediv_add_emod x i
  have h2 := Int.emod_nonneg x (show i ≠ 0 by omega)
  have h3 := Int.emod_lt_of_pos x (show 0 < i by omega)
  generalize x / i = q at *
  generalize x % i = r at *
  have hq : q * i = i * q := Int.mul_comm _ _
  rw [hq]
  split
  · have a1 := (ceil_le x i (q + 1) hi).2 (by rw [Int.mul_add]; omega)
    have a2 : ¬ (x + i - 1) / i ≤ q := fun h => by have := (ceil_le x i q hi).1 h; omega
    omega
  · have a1 := (ceil_le x i q hi).2 (by omega)
    have a2 : ¬ (x + i - 1) / i ≤ q - 1 := fun h => by have := (ceil_le x i (q - 1) hi).1 h; rw [Int.mul_sub] at this; omega
    omega
end Go.Proofs.Ytpldacdgifekmaa
