/- addresses: the plain functions. No condition. -/
import Derived.Test.YtfienpkogkepkaaEU
import Derived.Test.YtfienpkogkepkaaChecked
import Derived.KernelRfl
namespace Go.Proofs.Ytfienpkogkepkaa
set_option linter.unusedVariables false
set_option linter.unusedSimpArgs false
open Go.RowKit E
/-- A piece of code: where it stands. -/
def E.subC : List Bool → Code → Code
  | [], c => c
  | b :: p, .seq x y => subC p (if b then y else x)
  | _ :: p, .block _ c => subC p c
  | _ :: p, .loop c => subC p c
  | b :: p, .cond _ x y => subC p (if b then y else x)
  | _, c => c
def E.bodyOf (fn : Func) : Code := match fn.body with
  | some c => c
  | none => .skip
def E.opsOf : Code → List Oper
  | .region _ ops _ => ops.toList
  | _ => []
def tabOf : List Oper → ByteArray
  | [] => ⟨#[]⟩
  | o :: l => match o.op with
    | .index _ (.const (.string s)) _ => s
    | _ => tabOf l
noncomputable def lenTab : ByteArray := tabOf (opsOf (subC [true, true, true, false] (bodyOf Try.f33)))
theorem lenTab_size : lenTab.size = 256 := by kernel_rfl
def bl8 (x : Int) : Int := if x = 0 then 0 else if x < 2 then 1 else if x < 4 then 2 else if x < 8 then 3 else if x < 16 then 4 else if x < 32 then 5 else if x < 64 then 6 else if x < 128 then 7 else 8
theorem lenTab_at : ∀ x : Fin 256, byteAt lenTab (x.val : Int) = bl8 (x.val : Int) := by decide +kernel
theorem u8_lo (x : Int) : 0 ≤ IntKind.wrap .u8 x := by simp [IntKind.wrap, IntKind.signed, IntKind.bits]; omega
theorem u8_hi (x : Int) : IntKind.wrap .u8 x < 256 := by simp [IntKind.wrap, IntKind.signed, IntKind.bits]; omega
theorem u8_tab (x : Int) : IntKind.wrap .u8 x < (lenTab.size : Int) := by rw [lenTab_size]; exact u8_hi x
end Go.Proofs.Ytfienpkogkepkaa

/- Runs of Go code, as printed by a program: no condition beyond those that each states. -/
namespace Go.Proofs.Ytfienpkogkepkaa
set_option linter.unusedVariables false
set_option linter.unusedSimpArgs false
set_option maxRecDepth 100000
open Go.RowKit E
attribute [local irreducible] bl8
set_option maxHeartbeats 2000000 in
theorem ln_a (x r : Int) (h0 : 0 ≤ x) (hx : x ≤ 4294967295) (h1 : x ≥ 65536) (h2 : Int.fdiv x (2 ^ 16) ≥ 256) (hr : IntKind.wrap IntKind.i64 (IntKind.wrap IntKind.i64 ((16 : Int) + (8 : Int)) + IntKind.wrap IntKind.i64 (byteAt lenTab (IntKind.wrap IntKind.u8 (Int.fdiv (Int.fdiv x (2 ^ 16)) (2 ^ 8))))) = r) : PureOk Try.prog 33 ([.nv (.one (.val (.int .u32 (x))))]) (iA r) :=
  pure_run G0_ok Try.func33 (orc := ⟨[true, true], []⟩) (obl := [decide (x ≥ (65536 : Int)) = true,
      (0 : Int) ≤ (16 : Int),
      decide (Int.fdiv x ((2 : Int) ^ (16 : Nat)) ≥ (256 : Int)) = true,
      (0 : Int) ≤ (8 : Int),
      (0 : Int) ≤ IntKind.wrap IntKind.u8 (Int.fdiv (Int.fdiv x ((2 : Int) ^ (16 : Nat))) ((2 : Int) ^ (8 : Nat))),
      IntKind.wrap IntKind.u8 (Int.fdiv (Int.fdiv x ((2 : Int) ^ (16 : Nat))) ((2 : Int) ^ (8 : Nat))) < (↑(ByteArray.size lenTab) : Int),
      IntKind.wrap IntKind.i64 (IntKind.wrap IntKind.i64 ((16 : Int) + (8 : Int)) + IntKind.wrap IntKind.i64 (byteAt lenTab (IntKind.wrap IntKind.u8 (Int.fdiv (Int.fdiv x ((2 : Int) ^ (16 : Nat))) ((2 : Int) ^ (8 : Nat)))))) = r]) (by kernel_rfl) (.cons (by exact decide_eq_true h1) (.cons (by trivial) (.cons (by exact decide_eq_true h2) (.cons (by trivial) (.cons (by exact u8_lo _) (.cons (by exact u8_tab _) (.cons (by assumption) .nil)))))))

set_option maxHeartbeats 2000000 in
theorem ln_b (x r : Int) (h0 : 0 ≤ x) (hx : x ≤ 4294967295) (h1 : x ≥ 65536) (h2 : ¬ Int.fdiv x (2 ^ 16) ≥ 256) (hr : IntKind.wrap IntKind.i64 (16 + IntKind.wrap IntKind.i64 (byteAt lenTab (IntKind.wrap IntKind.u8 (Int.fdiv x (2 ^ 16))))) = r) : PureOk Try.prog 33 ([.nv (.one (.val (.int .u32 (x))))]) (iA r) :=
  pure_run G0_ok Try.func33 (orc := ⟨[true, false], []⟩) (obl := [decide (x ≥ (65536 : Int)) = true,
      (0 : Int) ≤ (16 : Int),
      decide (Int.fdiv x ((2 : Int) ^ (16 : Nat)) ≥ (256 : Int)) = false,
      (0 : Int) ≤ IntKind.wrap IntKind.u8 (Int.fdiv x ((2 : Int) ^ (16 : Nat))),
      IntKind.wrap IntKind.u8 (Int.fdiv x ((2 : Int) ^ (16 : Nat))) < (↑(ByteArray.size lenTab) : Int),
      IntKind.wrap IntKind.i64 ((16 : Int) + IntKind.wrap IntKind.i64 (byteAt lenTab (IntKind.wrap IntKind.u8 (Int.fdiv x ((2 : Int) ^ (16 : Nat)))))) = r]) (by kernel_rfl) (.cons (by exact decide_eq_true h1) (.cons (by trivial) (.cons (by exact decide_eq_false h2) (.cons (by exact u8_lo _) (.cons (by exact u8_tab _) (.cons (by assumption) .nil))))))

set_option maxHeartbeats 2000000 in
theorem ln_c (x r : Int) (h0 : 0 ≤ x) (hx : x ≤ 4294967295) (h1 : ¬ x ≥ 65536) (h2 : x ≥ 256) (hr : IntKind.wrap IntKind.i64 (IntKind.wrap IntKind.i64 ((0 : Int) + (8 : Int)) + IntKind.wrap IntKind.i64 (byteAt lenTab (IntKind.wrap IntKind.u8 (Int.fdiv x (2 ^ 8))))) = r) : PureOk Try.prog 33 ([.nv (.one (.val (.int .u32 (x))))]) (iA r) :=
  pure_run G0_ok Try.func33 (orc := ⟨[false, true], []⟩) (obl := [decide (x ≥ (65536 : Int)) = false,
      decide (x ≥ (256 : Int)) = true,
      (0 : Int) ≤ (8 : Int),
      (0 : Int) ≤ IntKind.wrap IntKind.u8 (Int.fdiv x ((2 : Int) ^ (8 : Nat))),
      IntKind.wrap IntKind.u8 (Int.fdiv x ((2 : Int) ^ (8 : Nat))) < (↑(ByteArray.size lenTab) : Int),
      IntKind.wrap IntKind.i64 (IntKind.wrap IntKind.i64 ((0 : Int) + (8 : Int)) + IntKind.wrap IntKind.i64 (byteAt lenTab (IntKind.wrap IntKind.u8 (Int.fdiv x ((2 : Int) ^ (8 : Nat)))))) = r]) (by kernel_rfl) (.cons (by exact decide_eq_false h1) (.cons (by exact decide_eq_true h2) (.cons (by trivial) (.cons (by exact u8_lo _) (.cons (by exact u8_tab _) (.cons (by assumption) .nil))))))

set_option maxHeartbeats 2000000 in
theorem ln_d (x r : Int) (h0 : 0 ≤ x) (hx : x ≤ 4294967295) (h1 : ¬ x ≥ 65536) (h2 : ¬ x ≥ 256) (hr : IntKind.wrap IntKind.i64 (0 + IntKind.wrap IntKind.i64 (byteAt lenTab (IntKind.wrap IntKind.u8 (x)))) = r) : PureOk Try.prog 33 ([.nv (.one (.val (.int .u32 (x))))]) (iA r) :=
  pure_run G0_ok Try.func33 (orc := ⟨[false, false], []⟩) (obl := [decide (x ≥ (65536 : Int)) = false,
      decide (x ≥ (256 : Int)) = false,
      (0 : Int) ≤ IntKind.wrap IntKind.u8 x,
      IntKind.wrap IntKind.u8 x < (↑(ByteArray.size lenTab) : Int),
      IntKind.wrap IntKind.i64 ((0 : Int) + IntKind.wrap IntKind.i64 (byteAt lenTab (IntKind.wrap IntKind.u8 x))) = r]) (by kernel_rfl) (.cons (by exact decide_eq_false h1) (.cons (by exact decide_eq_false h2) (.cons (by exact u8_lo _) (.cons (by exact u8_tab _) (.cons (by assumption) .nil)))))

set_option maxHeartbeats 2000000 in
theorem mk_f (n r : Int) (h0 : 0 ≤ n) (h1 : n ≤ 32) (hm : IntKind.wrap IntKind.i64 ((32 : Int) - List.foldl (fun (x y : Int) => if y < x then y else x) (List.foldl (fun (x y : Int) => if y > x then y else x) n [(0 : Int)]) [(32 : Int)]) = 32 - n) (hr : IntKind.wrap IntKind.u32 ((4294967295 : Int) * (2 : Int) ^ min (Int.toNat (32 - n)) (IntKind.bits IntKind.u32)) = r) : PureOk Try.prog 30 ([iA n]) (.nv (.one (.val (.int .u32 (r))))) :=
  pure_run G0_ok Try.func30 (orc := ⟨[], []⟩) (obl := [(0 : Int) ≤ IntKind.wrap IntKind.i64 ((32 : Int) - List.foldl (fun (x y : Int) => if y < x then y else x) (List.foldl (fun (x y : Int) => if y > x then y else x) n [(0 : Int)]) [(32 : Int)]),
      IntKind.wrap IntKind.u32 ((4294967295 : Int) * (2 : Int) ^ min (Int.toNat (IntKind.wrap IntKind.i64 ((32 : Int) - List.foldl (fun (x y : Int) => if y < x then y else x) (List.foldl (fun (x y : Int) => if y > x then y else x) n [(0 : Int)]) [(32 : Int)]))) (IntKind.bits IntKind.u32)) = r]) (by kernel_rfl) (.cons (by (rw [hm]; omega)) (.cons (by (rw [hm]; omega)) .nil))
end Go.Proofs.Ytfienpkogkepkaa

/- addresses: what the bits say. No condition. -/
namespace Go.Proofs.Ytfienpkogkepkaa
set_option linter.unusedVariables false
set_option linter.unusedSimpArgs false
open Go.RowKit E
theorem hi_bits (k i : Nat) (hk : k ≤ 32) : (2 ^ 32 - 2 ^ k).testBit i = (decide (k ≤ i) && decide (i < 32)) := by
  have e : 2 ^ 32 - 2 ^ k = (2 ^ (32 - k) - 1) * 2 ^ k := by
    rw [Nat.sub_mul, Nat.one_mul, ← Nat.pow_add, Nat.sub_add_cancel hk]
  rw [e, ← Nat.shiftLeft_eq, Nat.testBit_shiftLeft, Nat.testBit_two_pow_sub_one]
  by_cases h : k ≤ i
  · simp [h]; omega
  · simp [h]
theorem nat_mask (x k : Nat) (hx : x < 2 ^ 32) (hk : k ≤ 32) : x &&& (2 ^ 32 - 2 ^ k) = x - x % 2 ^ k := by
  have e : x - x % 2 ^ k = (x / 2 ^ k) * 2 ^ k := by
    have := Nat.div_add_mod x (2 ^ k); rw [Nat.mul_comm] at this; omega
  rw [e]
  apply Nat.eq_of_testBit_eq
  intro i
  rw [Nat.testBit_and, hi_bits k i hk, ← Nat.shiftLeft_eq, Nat.testBit_shiftLeft, ← Nat.shiftRight_eq_div_pow, Nat.testBit_shiftRight]
  by_cases h : k ≤ i
  · rw [show k + (i - k) = i by omega]
    by_cases h2 : i < 32
    · simp [h, h2]
    · have : x.testBit i = false := Nat.testBit_lt_two_pow (Nat.lt_of_lt_of_le hx (Nat.pow_le_pow_right (by omega) (by omega)))
      simp [this]
  · simp [h]
/-- How many addresses a prefix of n bits has. -/
def wdN (n : Int) : Nat := 2 ^ (32 - n).toNat
def msk (n : Int) : Int := 4294967296 - (wdN n : Int)
theorem wdN_pos (n : Int) : 0 < wdN n := Nat.two_pow_pos _
theorem wdN_le {n : Int} (h : 0 ≤ n) : wdN n ≤ 4294967296 := by
  unfold wdN
  have : 2 ^ (32 - n).toNat ≤ 2 ^ 32 := Nat.pow_le_pow_right (by omega) (by omega)
  omega
theorem wdN_half {n : Int} (h0 : 0 ≤ n) (h : n < 32) : wdN n = 2 * wdN (n + 1) := by
  unfold wdN
  rw [show (32 - n).toNat = (32 - (n + 1)).toNat + 1 by omega, Nat.pow_succ]; omega
theorem bits_and32 (x y : Nat) (hx : x < 4294967296) (hy : y < 4294967296) : bits .and .u32 (x : Int) (y : Int) = ((x &&& y : Nat) : Int) := by
  show IntKind.u32.wrap ((BitVec.ofInt 32 (x : Int) &&& BitVec.ofInt 32 (y : Int)).toNat : Nat) = _
  have h1 : (BitVec.ofInt 32 (x : Int)).toNat = x := by rw [BitVec.toNat_ofInt]; omega
  have h2 : (BitVec.ofInt 32 (y : Int)).toNat = y := by rw [BitVec.toNat_ofInt]; omega
  rw [BitVec.toNat_and, h1, h2]
  have := Nat.and_le_left (n := x) (m := y)
  exact wU32 rfl (by omega)
theorem bits_xor32 (x y : Nat) (hx : x < 4294967296) (hy : y < 4294967296) : bits .xor .u32 (x : Int) (y : Int) = ((x ^^^ y : Nat) : Int) := by
  show IntKind.u32.wrap ((BitVec.ofInt 32 (x : Int) ^^^ BitVec.ofInt 32 (y : Int)).toNat : Nat) = _
  have h1 : (BitVec.ofInt 32 (x : Int)).toNat = x := by rw [BitVec.toNat_ofInt]; omega
  have h2 : (BitVec.ofInt 32 (y : Int)).toNat = y := by rw [BitVec.toNat_ofInt]; omega
  rw [BitVec.toNat_xor, h1, h2]
  have := Nat.xor_lt_two_pow (x := x) (y := y) (n := 32) hx hy
  exact wU32 rfl (by omega)
theorem bits_andNot32 (x y : Nat) (hx : x < 4294967296) (hy : y < 4294967296) : bits .andNot .u32 (x : Int) (y : Int) = ((x &&& (4294967295 - y) : Nat) : Int) := by
  show IntKind.u32.wrap ((BitVec.ofInt 32 (x : Int) &&& ~~~ BitVec.ofInt 32 (y : Int)).toNat : Nat) = _
  have h1 : (BitVec.ofInt 32 (x : Int)).toNat = x := by rw [BitVec.toNat_ofInt]; omega
  have h2 : (BitVec.ofInt 32 (y : Int)).toNat = y := by rw [BitVec.toNat_ofInt]; omega
  rw [BitVec.toNat_and, BitVec.toNat_not, h1, h2]
  have := Nat.and_le_left (n := x) (m := 4294967295 - y)
  exact wU32 rfl (by omega)
section
variable {a n : Int} (ha : 0 ≤ a ∧ a ≤ 4294967295) (hn : 0 ≤ n ∧ n ≤ 32)
include ha hn
theorem and_msk : bits .and .u32 a (msk n) = a - a % (wdN n : Int) := by
  obtain ⟨x, rfl⟩ := Int.eq_ofNat_of_zero_le ha.1
  have h1 := wdN_pos n
  have h2 := wdN_le hn.1
  have e : msk n = ((2 ^ 32 - wdN n : Nat) : Int) := by unfold msk; omega
  rw [e, bits_and32 x _ (by omega) (by omega)]
  have h3 := nat_mask x (32 - n).toNat (by omega) (by omega)
  have h4 : wdN n = 2 ^ (32 - n).toNat := rfl
  rw [← h4] at h3
  rw [h3]
  have := Nat.mod_le x (wdN n)
  omega
theorem andNot_msk : bits .andNot .u32 a (msk n) = a % (wdN n : Int) := by
  obtain ⟨x, rfl⟩ := Int.eq_ofNat_of_zero_le ha.1
  have h1 := wdN_pos n
  have h2 := wdN_le hn.1
  have e : msk n = ((4294967296 - wdN n : Nat) : Int) := by unfold msk; omega
  rw [e, bits_andNot32 x _ (by omega) (by omega)]
  have h4 : wdN n = 2 ^ (32 - n).toNat := rfl
  rw [show 4294967295 - (4294967296 - wdN n) = 2 ^ (32 - n).toNat - 1 by omega, and_ones, ← h4]
  omega
end
theorem side_bit {a n : Int} (ha : 0 ≤ a ∧ a ≤ 4294967295) (hn : 0 ≤ n ∧ n ≤ 31) : bits .and .u32 (Int.fdiv a (2 ^ (31 - n).toNat)) 1 = (a / (wdN (n + 1) : Int)) % 2 := by
  obtain ⟨x, rfl⟩ := Int.eq_ofNat_of_zero_le ha.1
  have h4 : wdN (n + 1) = 2 ^ (31 - n).toNat := by unfold wdN; congr 1; omega
  have e : Int.fdiv (x : Int) (2 ^ (31 - n).toNat) = ((x / 2 ^ (31 - n).toNat : Nat) : Int) := by
    rw [Int.fdiv_eq_ediv_of_nonneg _ (Int.le_of_lt (Int.pow_pos (by decide)))]; push_cast; rfl
  rw [e]
  refine (bits_and32 (x / 2 ^ (31 - n).toNat) 1 (Nat.lt_of_le_of_lt (Nat.div_le_self _ _) (by omega)) (by omega)).trans ?_
  rw [h4, Nat.and_one_is_mod]
  push_cast; rfl
/-- How many bits a number has. -/
def bl32 (x : Int) : Int := if x ≥ 65536 then (if Int.fdiv x (2 ^ 16) ≥ 256 then 24 + bl8 (Int.fdiv (Int.fdiv x (2 ^ 16)) (2 ^ 8)) else 16 + bl8 (Int.fdiv x (2 ^ 16))) else if x ≥ 256 then 8 + bl8 (Int.fdiv x (2 ^ 8)) else bl8 x
theorem bl8_spec {x : Int} (h : 0 ≤ x ∧ x < 256) : ∃ k : Nat, bl8 x = k ∧ k ≤ 8 ∧ x < ((2 ^ k : Nat) : Int) ∧ (k = 0 ∨ ((2 ^ (k - 1) : Nat) : Int) ≤ x) := by
  unfold bl8
  split
  · exact ⟨0, rfl, by omega, by simp; omega, .inl rfl⟩
  split
  · exact ⟨1, rfl, by omega, by simp; omega, .inr (by simp; omega)⟩
  split
  · exact ⟨2, rfl, by omega, by simp; omega, .inr (by simp; omega)⟩
  split
  · exact ⟨3, rfl, by omega, by simp; omega, .inr (by simp; omega)⟩
  split
  · exact ⟨4, rfl, by omega, by simp; omega, .inr (by simp; omega)⟩
  split
  · exact ⟨5, rfl, by omega, by simp; omega, .inr (by simp; omega)⟩
  split
  · exact ⟨6, rfl, by omega, by simp; omega, .inr (by simp; omega)⟩
  split
  · exact ⟨7, rfl, by omega, by simp; omega, .inr (by simp; omega)⟩
  · exact ⟨8, rfl, by omega, by simp; omega, .inr (by simp; omega)⟩
theorem bl_up {x : Int} {s : Nat} (h0 : 0 ≤ x) (hx : ((2 ^ s : Nat) : Int) ≤ x) (h8 : x / ((2 ^ s : Nat) : Int) < 256) : ∃ k : Nat, (s : Int) + bl8 (x / ((2 ^ s : Nat) : Int)) = k ∧ k ≤ s + 8 ∧ x < ((2 ^ k : Nat) : Int) ∧ (k = 0 ∨ ((2 ^ (k - 1) : Nat) : Int) ≤ x) := by
  have hp := Nat.two_pow_pos s
  obtain ⟨y, rfl⟩ := Int.eq_ofNat_of_zero_le h0
  have e : ((y : Int) / ((2 ^ s : Nat) : Int)) = ((y / 2 ^ s : Nat) : Int) := by push_cast; rfl
  rw [e] at h8 ⊢
  have hx' : 2 ^ s ≤ y := by exact_mod_cast hx
  have h1 : 1 ≤ y / 2 ^ s := (Nat.le_div_iff_mul_le hp).2 (by omega)
  obtain ⟨k, k1, k2, k3, k4⟩ := bl8_spec (x := ((y / 2 ^ s : Nat) : Int)) (by omega)
  refine ⟨s + k, by omega, by omega, ?_, .inr ?_⟩
  · have : y / 2 ^ s < 2 ^ k := by omega
    have := (Nat.div_lt_iff_lt_mul hp).1 this
    rw [Nat.pow_add, Nat.mul_comm]; omega
  · have hk : k ≠ 0 := by rintro rfl; rw [Nat.pow_zero] at k3; omega
    have : 2 ^ (k - 1) ≤ y / 2 ^ s := by omega
    have := (Nat.le_div_iff_mul_le hp).1 this
    rw [show s + k - 1 = (k - 1) + s by omega, Nat.pow_add]; omega
theorem bl32_spec {x : Int} (h : 0 ≤ x ∧ x ≤ 4294967295) : ∃ k : Nat, bl32 x = k ∧ k ≤ 32 ∧ x < ((2 ^ k : Nat) : Int) ∧ (k = 0 ∨ ((2 ^ (k - 1) : Nat) : Int) ≤ x) := by
  have f : ∀ y : Int, ∀ s : Nat, Int.fdiv y (2 ^ s) = y / ((2 ^ s : Nat) : Int) := fun y s => by
    rw [Int.fdiv_eq_ediv_of_nonneg _ (Int.le_of_lt (Int.pow_pos (by decide)))]; push_cast; rfl
  have e16 : ((2 ^ 16 : Nat) : Int) = 65536 := rfl
  have e8 : ((2 ^ 8 : Nat) : Int) = 256 := rfl
  have e24 : ((2 ^ 24 : Nat) : Int) = 16777216 := rfl
  unfold bl32
  split
  · split
    · rename_i h1 h2
      rw [f, e16] at h2
      have e : Int.fdiv (Int.fdiv x (2 ^ 16)) (2 ^ 8) = x / ((2 ^ 24 : Nat) : Int) := by rw [f, f, e16, e8, e24]; omega
      rw [e]
      obtain ⟨k, a1, a2, a3⟩ := bl_up (s := 24) h.1 (by rw [e24]; omega) (by rw [e24]; omega)
      exact ⟨k, a1, by omega, a3⟩
    · rename_i h1 h2
      rw [f, e16] at h2
      rw [f]
      obtain ⟨k, a1, a2, a3⟩ := bl_up (s := 16) h.1 (by rw [e16]; omega) (by rw [e16]; omega)
      exact ⟨k, a1, by omega, a3⟩
  · split
    · rw [f]
      obtain ⟨k, a1, a2, a3⟩ := bl_up (s := 8) h.1 (by rw [e8]; omega) (by rw [e8]; omega)
      exact ⟨k, a1, by omega, a3⟩
    · obtain ⟨k, a1, a2, a3⟩ := bl8_spec (x := x) (by omega)
      exact ⟨k, a1, by omega, a3⟩
end Go.Proofs.Ytfienpkogkepkaa

/- addresses: Len32, Mask as callees. No condition. -/
namespace Go.Proofs.Ytfienpkogkepkaa
set_option linter.unusedVariables false
set_option linter.unusedSimpArgs false
open Go.RowKit E
theorem tab_u8 {y : Int} (h : 0 ≤ y ∧ y < 256) : byteAt lenTab (IntKind.wrap .u8 y) = bl8 y ∧ 0 ≤ bl8 y ∧ bl8 y ≤ 8 := by
  have e : IntKind.wrap .u8 y = y := wU8 rfl (by omega)
  have := lenTab_at ⟨y.toNat, by omega⟩
  rw [show ((y.toNat : Nat) : Int) = y by omega] at this
  obtain ⟨k, k1, k2, _⟩ := bl8_spec h
  exact ⟨by rw [e]; exact this, by omega, by omega⟩
theorem fnLen32 (x : Int) (h : 0 ≤ x ∧ x ≤ 4294967295) : PureOk Try.prog 33 [.nv (.one (.val (.int .u32 x)))] (iA (bl32 x)) := by
  have f : ∀ y : Int, ∀ s : Nat, Int.fdiv y (2 ^ s) = y / ((2 ^ s : Nat) : Int) := fun y s => by
    rw [Int.fdiv_eq_ediv_of_nonneg _ (Int.le_of_lt (Int.pow_pos (by decide)))]; push_cast; rfl
  have e16 : ((2 ^ 16 : Nat) : Int) = 65536 := rfl
  have e8 : ((2 ^ 8 : Nat) : Int) = 256 := rfl
  unfold bl32
  split
  · rename_i h1
    split
    · rename_i h2
      have := tab_u8 (y := Int.fdiv (Int.fdiv x (2 ^ 16)) (2 ^ 8)) (by rw [f, f, e16, e8]; omega)
      refine ln_a x _ h.1 h.2 h1 h2 ?_
      rw [this.1, w64 (a := bl8 _) rfl (by omega), w64 (a := (16 : Int) + 8) rfl (by omega)]
      exact w64 (by omega) (by omega)
    · rename_i h2
      have := tab_u8 (y := Int.fdiv x (2 ^ 16)) (by rw [f, e16] at h2 ⊢; omega)
      refine ln_b x _ h.1 h.2 h1 h2 ?_
      rw [this.1, w64 (a := bl8 _) rfl (by omega)]
      exact w64 (by omega) (by omega)
  · rename_i h1
    split
    · rename_i h2
      have := tab_u8 (y := Int.fdiv x (2 ^ 8)) (by rw [f, e8]; omega)
      refine ln_c x _ h.1 h.2 h1 h2 ?_
      rw [this.1, w64 (a := bl8 _) rfl (by omega), w64 (a := (0 : Int) + 8) rfl (by omega)]
      exact w64 (by omega) (by omega)
    · rename_i h2
      have := tab_u8 (y := x) (by omega)
      refine ln_d x _ h.1 h.2 h1 h2 ?_
      rw [this.1, w64 (a := bl8 _) rfl (by omega)]
      exact w64 (by omega) (by omega)
theorem fnMask (n : Int) (h : 0 ≤ n ∧ n ≤ 32) : PureOk Try.prog 30 [iA n] (.nv (.one (.val (.int .u32 (msk n))))) := by
  refine mk_f n _ h.1 h.2 ?_ ?_
  · simp only [List.foldl_cons, List.foldl_nil]
    rw [if_neg (show ¬ (0 : Int) > n by omega)]
    split
    · exact w64 (by omega) (by omega)
    · exact w64 rfl (by omega)
  · have h1 := wdN_pos n
    have h2 := wdN_le h.1
    have e : min (32 - n).toNat (IntKind.bits .u32) = (32 - n).toNat := by simp [IntKind.bits]; omega
    rw [e]
    have e2 : ((2 : Int) ^ (32 - n).toNat) = (wdN n : Int) := by unfold wdN; push_cast; rfl
    rw [e2]
    unfold msk
    show (4294967295 * (wdN n : Int)) % 4294967296 = _
    omega
def gLen32 : List SV → Option (SV × List Prop)
  | [.nv (.one (.val (.int .u32 x)))] => some (iA (bl32 x), [0 ≤ x, x ≤ 4294967295])
  | _ => none
theorem spLen32 : SpOk Try.prog 33 (pureS gLen32) := pureS_ok (by
  intro args r obl h ho
  unfold gLen32 at h
  split at h
  · simp only [Option.some.injEq, Prod.mk.injEq] at h
    obtain ⟨rfl, rfl⟩ := h
    exact ⟨rfl, rfl, fnLen32 _ ⟨ho.1, ho.2.1⟩⟩
  · cases h)
def gMask : List SV → Option (SV × List Prop)
  | [.nv (.one (.val (.int .i64 n)))] => some (.nv (.one (.val (.int .u32 (msk n)))), [0 ≤ n, n ≤ 32])
  | _ => none
theorem spMask : SpOk Try.prog 30 (pureS gMask) := pureS_ok (by
  intro args r obl h ho
  unfold gMask at h
  split at h
  · simp only [Option.some.injEq, Prod.mk.injEq] at h
    obtain ⟨rfl, rfl⟩ := h
    exact ⟨rfl, rfl, fnMask _ ⟨ho.1, ho.2.1⟩⟩
  · cases h)
def Gt0 : List (FuncId × Sp) := (33, pureS gLen32) :: (30, pureS gMask) :: G0
theorem Gt0_ok : CtxOk Try.prog Gt0 := ctx_cons (enter_of Try.func33 (by kernel_rfl) (by kernel_rfl)) spLen32 <|
  ctx_cons (enter_of Try.func30 (by kernel_rfl) (by kernel_rfl)) spMask G0_ok
end Go.Proofs.Ytfienpkogkepkaa
