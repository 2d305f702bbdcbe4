/- prefixes as ranges of addresses: plain law. No condition. -/
import Derived.Test.YtfienpkogkepkaaTgJ
namespace Go.Proofs.Ytfienpkogkepkaa
set_option linter.unusedVariables false
set_option linter.unusedSimpArgs false
open Go.RowKit E
theorem wdN_dbl {n : Int} (h0 : 0 ≤ n) (h : n ≤ 31) : (wdN n : Int) = 2 * (wdN (n + 1) : Int) := by
  have := wdN_half (n := n) h0 (by omega)
  omega
theorem wdN_1 {n : Int} (h : 32 ≤ n) : wdN n = 1 := by
  unfold wdN; rw [show (32 - n).toNat = 0 by omega]
theorem wdN_mul {n m : Int} (h : n ≤ m) : ∃ q : Nat, 0 < q ∧ wdN n = q * wdN m := by
  refine ⟨2 ^ ((32 - n).toNat - (32 - m).toNat), Nat.two_pow_pos _, ?_⟩
  unfold wdN
  rw [← Nat.pow_add]
  congr 1; omega
theorem rgt_mod {a n : Int} (h : rgt a n = true) : ∃ q : Int, a = q * (wdN n : Int) := by
  have h := (rgt_iff.1 h).2
  exact ⟨a / (wdN n : Int), by have := Int.mul_ediv_add_emod a (wdN n : Int); rw [h, Int.add_zero, Int.mul_comm] at this; exact this.symm⟩
/-- To have an address is to have it between. -/
theorem hasB_iff {a n k : Int} (h : rgt a n = true) : hasB a n k = true ↔ a ≤ k ∧ k < a + (wdN n : Int) := by
  obtain ⟨q, rfl⟩ := rgt_mod h
  have hw := wdN_pos n
  unfold hasB
  rw [h, Bool.true_and, decide_eq_true_eq]
  have h1 := Int.mul_ediv_add_emod k (wdN n : Int)
  have h2 := Int.emod_nonneg k (show (wdN n : Int) ≠ 0 by omega)
  have h3 := Int.emod_lt_of_pos k (show (0 : Int) < (wdN n : Int) by omega)
  constructor
  · intro e; omega
  · rintro ⟨e1, e2⟩
    have hq : k / (wdN n : Int) = q := by
      rw [Int.ediv_eq_iff_of_pos (by omega)]
      exact ⟨e1, e2⟩
    rw [hq, Int.mul_comm] at h1
    omega
theorem hasB_rgt {a n k : Int} (h : rgt a n = false) : hasB a n k = false := by unfold hasB; rw [h]; rfl
/-- On which side. -/
theorem sd_iff {a n k : Int} (h : rgt a n = true) (hn : n ≤ 31) (h1 : a ≤ k) (h2 : k < a + (wdN n : Int)) : (sdN k n = 0 ∧ k < a + (wdN (n + 1) : Int)) ∨ (sdN k n = 1 ∧ a + (wdN (n + 1) : Int) ≤ k) := by
  have hn0 := (rgt_iff.1 h).1.1
  have hd := wdN_dbl hn0 hn
  obtain ⟨q, rfl⟩ := rgt_mod h
  have hw := wdN_pos (n + 1)
  unfold sdN
  generalize (wdN (n + 1) : Int) = W at *
  rw [hd] at h1 h2 ⊢
  have e : q * (2 * W) = 2 * q * W := by rw [← Int.mul_assoc, Int.mul_comm q 2]
  rw [e] at h1 h2 ⊢
  by_cases hk : k < 2 * q * W + W
  · have hq : k / W = 2 * q := by
      rw [Int.ediv_eq_iff_of_pos (by omega)]
      exact ⟨h1, hk⟩
    rw [hq]
    exact .inl ⟨by omega, hk⟩
  · have hq : k / W = 2 * q + 1 := by
      rw [Int.ediv_eq_iff_of_pos (by omega), Int.add_mul, Int.one_mul]
      exact ⟨by omega, by omega⟩
    rw [hq]
    exact .inr ⟨by omega, by omega⟩
/-- A prefix that begins within another, shorter one, lies within it. -/
theorem sub_in {A N a n : Int} (hA : rgt A N = true) (ha : rgt a n = true) (hn : N ≤ n) (h1 : A ≤ a) (h2 : a < A + (wdN N : Int)) : a + (wdN n : Int) ≤ A + (wdN N : Int) := by
  obtain ⟨Q, rfl⟩ := rgt_mod hA
  obtain ⟨q, rfl⟩ := rgt_mod ha
  obtain ⟨t, ht, e⟩ := wdN_mul hn
  have hw := wdN_pos n
  have e' : (wdN N : Int) = (t : Int) * (wdN n : Int) := by rw [e]; push_cast; rfl
  rw [e'] at h2 ⊢
  generalize hW : (wdN n : Int) = W at *
  have e3 : Q * (↑t * W) + ↑t * W = (Q * t + t) * W := by rw [Int.add_mul, Int.mul_assoc]
  rw [e3] at h2 ⊢
  have h4 : q < Q * t + t := by
    by_cases z : q < Q * t + t
    · exact z
    · have z := Int.not_lt.1 z
      have := Int.mul_le_mul_of_nonneg_right z (show (0 : Int) ≤ W by omega)
      omega
  have h5 := Int.mul_le_mul_of_nonneg_right (show q + 1 ≤ Q * t + t by omega) (show (0 : Int) ≤ W by omega)
  rw [Int.add_mul q 1, Int.one_mul] at h5
  exact h5
theorem rgt_of {a n : Int} (h0 : 0 ≤ n) (h1 : n ≤ 32) (q : Int) (h : a = q * (wdN n : Int)) : rgt a n = true := by
  rw [rgt_iff]
  exact ⟨⟨h0, h1⟩, by rw [h]; exact Int.mul_emod_left _ _⟩
theorem rgt_up {a n : Int} (h : rgt a n = true) (hn : n ≤ 31) : rgt a (n + 1) = true ∧ rgt (a + (wdN (n + 1) : Int)) (n + 1) = true := by
  have hn0 := (rgt_iff.1 h).1.1
  obtain ⟨q, e⟩ := rgt_mod h
  rw [wdN_dbl hn0 hn] at e
  have e1 : a = (q * 2) * (wdN (n + 1) : Int) := by rw [e, Int.mul_assoc]
  exact ⟨rgt_of (by omega) (by omega) (q * 2) e1, rgt_of (by omega) (by omega) (q * 2 + 1) (by rw [e1, Int.add_mul, Int.one_mul])⟩
theorem xor_lo {A B k j : Nat} (h : A ^^^ B < 2 ^ k) (hj : k ≤ j) : A / 2 ^ j = B / 2 ^ j := by
  have h1 : (A ^^^ B) >>> j = 0 := by
    rw [Nat.shiftRight_eq_div_pow]
    exact Nat.div_eq_of_lt (Nat.lt_of_lt_of_le h (Nat.pow_le_pow_right (by omega) hj))
  rw [Nat.shiftRight_xor_distrib] at h1
  have h2 : A >>> j = B >>> j := by
    apply Nat.eq_of_testBit_eq
    intro i
    have := congrArg (fun x => Nat.testBit x i) h1
    simp only [Nat.testBit_xor, Nat.zero_testBit] at this
    cases p : (A >>> j).testBit i <;> cases q : (B >>> j).testBit i <;> simp_all
  rwa [Nat.shiftRight_eq_div_pow, Nat.shiftRight_eq_div_pow] at h2
theorem xor_hi {A B k : Nat} (h : A ^^^ B < 2 ^ (k + 1)) (h2 : 2 ^ k ≤ A ^^^ B) : (A / 2 ^ k) % 2 ≠ (B / 2 ^ k) % 2 := by
  have h1 : (A ^^^ B) >>> k = 1 := by
    rw [Nat.shiftRight_eq_div_pow]
    have hp := Nat.two_pow_pos k
    rw [Nat.pow_succ] at h
    have q1 : (A ^^^ B) / 2 ^ k < 2 := by rw [Nat.div_lt_iff_lt_mul hp]; omega
    have q2 : 1 ≤ (A ^^^ B) / 2 ^ k := by rw [Nat.le_div_iff_mul_le hp]; omega
    omega
  rw [Nat.shiftRight_xor_distrib] at h1
  have this : Nat.testBit (A >>> k ^^^ B >>> k) 0 = Nat.testBit 1 0 := by rw [h1]
  rw [Nat.testBit_xor, Nat.testBit_zero, Nat.testBit_zero, Nat.testBit_zero, Nat.shiftRight_eq_div_pow, Nat.shiftRight_eq_div_pow] at this
  intro e
  rw [e] at this
  simp at this
/-- What two prefixes have in common. -/
theorem com_spec {a n b m : Int} (ha : 0 ≤ a ∧ a ≤ 4294967295) (hb : 0 ≤ b ∧ b ≤ 4294967295) (hn : 0 ≤ n ∧ n ≤ 32) (hm : 0 ≤ m ∧ m ≤ 32) :
    (0 ≤ comN a n b m ∧ comN a n b m ≤ n ∧ comN a n b m ≤ m) ∧ a / (wdN (comN a n b m) : Int) = b / (wdN (comN a n b m) : Int) ∧ (comN a n b m < n → comN a n b m < m → sdN a (comN a n b m) ≠ sdN b (comN a n b m)) := by
  obtain ⟨k, k1, k2, k3, k4⟩ := bl32_spec (xor_bd ha hb)
  obtain ⟨A, rfl⟩ := Int.eq_ofNat_of_zero_le ha.1
  obtain ⟨B, rfl⟩ := Int.eq_ofNat_of_zero_le hb.1
  rw [bits_xor32 A B (by omega) (by omega)] at k1 k3 k4
  have k3 : A ^^^ B < 2 ^ k := by exact_mod_cast k3
  have hc : comN A n B m = min (min (32 - (k : Int)) n) m := by unfold comN; rw [bits_xor32 A B (by omega) (by omega), k1]
  generalize hC : comN A n B m = c at *
  refine ⟨by omega, ?_, fun h1 h2 => ?_⟩
  · unfold wdN
    have := xor_lo k3 (j := (32 - c).toNat) (by omega)
    exact_mod_cast this
  · have hk : 0 < k := by omega
    have k4 : 2 ^ (k - 1) ≤ A ^^^ B := by
      rcases k4 with k4 | k4
      · omega
      · exact_mod_cast k4
    have := xor_hi (A := A) (B := B) (k := k - 1) (by rw [show k - 1 + 1 = k by omega]; exact k3) k4
    unfold sdN wdN
    rw [show (32 - (c + 1)).toNat = k - 1 by omega]
    intro e
    exact this (by exact_mod_cast e)
theorem sd_01 (x n : Int) : sdN x n = 0 ∨ sdN x n = 1 := by
  unfold sdN; omega
theorem covB_iff {a n b m : Int} (ha : rgt a n = true) (hb : rgt b m = true) : covB a n b m = true ↔ n ≤ m ∧ a ≤ b ∧ b < a + (wdN n : Int) := by
  unfold covB
  rw [hb, Bool.true_and, Bool.and_eq_true, decide_eq_true_eq, hasB_iff ha]
structure FkS (ka kn pa pn : Int) : Prop where
  lo : 0 ≤ comN ka kn pa pn
  hi : comN ka kn pa pn ≤ 31
  rg : rgt (comA ka kn pa pn) (comN ka kn pa pn) = true
  kl : comA ka kn pa pn ≤ ka
  kh : ka < comA ka kn pa pn + (wdN (comN ka kn pa pn) : Int)
  pl : comA ka kn pa pn ≤ pa
  ph : pa < comA ka kn pa pn + (wdN (comN ka kn pa pn) : Int)
  nk : comN ka kn pa pn < kn
  np : comN ka kn pa pn ≤ pn
  eq : comN ka kn pa pn = pn → comA ka kn pa pn = pa
  sd : comN ka kn pa pn < pn → sdN ka (comN ka kn pa pn) ≠ sdN pa (comN ka kn pa pn)
theorem fk_spec {ka kn pa pn : Int} (hka : 0 ≤ ka ∧ ka ≤ 4294967295) (hpa : 0 ≤ pa ∧ pa ≤ 4294967295) (hk : rgt ka kn = true) (hp : rgt pa pn = true) (hne : ¬ (ka = pa ∧ kn = pn)) (hc : covB ka kn pa pn = false) : FkS ka kn pa pn := by
  have hkn := (rgt_iff.1 hk).1
  have hpn := (rgt_iff.1 hp).1
  obtain ⟨⟨c0, c1, c2⟩, c3, c4⟩ := com_spec hka hpa hkn hpn
  have hA : comA ka kn pa pn = (ka / (wdN (comN ka kn pa pn) : Int)) * (wdN (comN ka kn pa pn) : Int) := by
    unfold comA
    have := Int.mul_ediv_add_emod ka (wdN (comN ka kn pa pn) : Int)
    rw [Int.mul_comm] at this; omega
  have hA2 : comA ka kn pa pn = (pa / (wdN (comN ka kn pa pn) : Int)) * (wdN (comN ka kn pa pn) : Int) := by rw [hA, c3]
  have hw := wdN_pos (comN ka kn pa pn)
  have bd : ∀ x : Int, x / (wdN (comN ka kn pa pn) : Int) * (wdN (comN ka kn pa pn) : Int) ≤ x ∧ x < x / (wdN (comN ka kn pa pn) : Int) * (wdN (comN ka kn pa pn) : Int) + (wdN (comN ka kn pa pn) : Int) := fun x => by
    have h1 := Int.mul_ediv_add_emod x (wdN (comN ka kn pa pn) : Int)
    have h2 := Int.emod_nonneg x (show (wdN (comN ka kn pa pn) : Int) ≠ 0 by omega)
    have h3 := Int.emod_lt_of_pos x (show (0 : Int) < (wdN (comN ka kn pa pn) : Int) by omega)
    rw [Int.mul_comm] at h1
    omega
  have hrg : rgt (comA ka kn pa pn) (comN ka kn pa pn) = true := rgt_of c0 (by omega) _ hA
  have ex : ∀ x n : Int, rgt x n = true → comN ka kn pa pn = n → x / (wdN (comN ka kn pa pn) : Int) * (wdN (comN ka kn pa pn) : Int) = x := fun x n hx e => by
    obtain ⟨q, hq⟩ := rgt_mod hx
    rw [e, hq, Int.mul_ediv_cancel _ (by have := wdN_pos n; omega)]
  have hnk : comN ka kn pa pn < kn := by
    by_cases z : comN ka kn pa pn < kn
    · exact z
    · exfalso
      have e : comN ka kn pa pn = kn := by omega
      have e2 := ex ka kn hk e
      rw [← hA] at e2
      have : covB ka kn pa pn = true := by
        rw [covB_iff hk hp]
        have := bd pa
        rw [← hA2, e2, e] at this
        exact ⟨by omega, this⟩
      rw [hc] at this; cases this
  refine ⟨c0, by omega, hrg, by rw [hA]; exact (bd ka).1, by rw [hA]; exact (bd ka).2, by rw [hA2]; exact (bd pa).1, by rw [hA2]; exact (bd pa).2, hnk, c2, fun e => by rw [hA2]; exact ex pa pn hp e, fun h => c4 hnk h⟩
end Go.Proofs.Ytfienpkogkepkaa

/- trie: what the tree holds, in order: plain law. No condition. -/
namespace Go.Proofs.Ytfienpkogkepkaa
set_option linter.unusedVariables false
set_option linter.unusedSimpArgs false
open Go.RowKit E
theorem wdN_mono {n m : Int} (h : n ≤ m) : wdN m ≤ wdN n := by
  obtain ⟨q, q1, q2⟩ := wdN_mul h
  rw [q2]
  exact Nat.le_mul_of_pos_left _ q1
theorem eq_in {a b n : Int} (ha : rgt a n = true) (hb : rgt b n = true) (h1 : a ≤ b) (h2 : b < a + (wdN n : Int)) : a = b := by
  have := sub_in ha hb (Int.le_refl n) h1 h2
  omega
/-- The nodes of a tree lie within a prefix, and so on down. -/
def Wf (a0 n0 : Int) : PT → Prop
  | .nil => True
  | .node a n u x l r => (0 ≤ a ∧ a ≤ 4294967295) ∧ rgt a n = true ∧ n0 ≤ n ∧ a0 ≤ a ∧ a + (wdN n : Int) ≤ a0 + (wdN n0 : Int) ∧ Wf a (n + 1) l ∧ Wf (a + (wdN (n + 1) : Int)) (n + 1) r
/-- What is used, in order. -/
def wkE : PT → List En
  | .nil => []
  | .node a n u x l r => (if u = true then [⟨a, n, x⟩] else []) ++ wkE l ++ wkE r
theorem wkL_map : ∀ T : PT, wkL T = (wkE T).map (fun e => ⟨e.a, e.n⟩)
  | .nil => rfl
  | .node a n u x l r => by
    rw [wkL, wkE, wkL_map l, wkL_map r, List.map_append, List.map_append]
    cases u <;> rfl
theorem Wf.move {a0 n0 b0 m0 : Int} {a n : Int} {u : Bool} {x : Int} {l r : PT} (h : Wf a0 n0 (.node a n u x l r)) (h1 : m0 ≤ n) (h2 : b0 ≤ a) (h3 : a + (wdN n : Int) ≤ b0 + (wdN m0 : Int)) : Wf b0 m0 (.node a n u x l r) :=
  ⟨h.1, h.2.1, h1, h2, h3, h.2.2.2.2.2⟩
structure InR (a0 n0 : Int) (e : En) : Prop where
  n : n0 ≤ e.n
  lo : a0 ≤ e.a
  hi : e.a + (wdN e.n : Int) ≤ a0 + (wdN n0 : Int)
  rg : rgt e.a e.n = true
  ad : 0 ≤ e.a ∧ e.a ≤ 4294967295
theorem InR.lt {a0 n0 : Int} {e : En} (h : InR a0 n0 e) : e.a < a0 + (wdN n0 : Int) := by
  have := h.hi; have := wdN_pos e.n; omega
theorem wk_in : ∀ {T : PT} {a0 n0 : Int}, Wf a0 n0 T → ∀ e, e ∈ wkE T → InR a0 n0 e
  | .nil, _, _, _, e, he => by cases he
  | .node a n u x l r, a0, n0, ⟨h1, h2, h3, h4, h5, h6, h7⟩, e, he => by
    rw [wkE, List.append_assoc] at he
    have hn := (rgt_iff.1 h2).1
    rcases List.mem_append.1 he with he | he
    · cases u with
      | false => cases he
      | true =>
        simp at he
        subst he
        exact ⟨h3, h4, h5, h2, h1⟩
    · rcases List.mem_append.1 he with he | he
      · have k := wk_in h6 e he
        have hm := wdN_mono (show n ≤ n + 1 by omega)
        exact ⟨by have := k.n; omega, by have := k.lo; omega, by have := k.hi; omega, k.rg, k.ad⟩
      · have k := wk_in h7 e he
        have h31 : n ≤ 31 := by have := k.n; have := (rgt_iff.1 k.rg).1; omega
        have hd := wdN_dbl hn.1 h31
        exact ⟨by have := k.n; omega, by have := k.lo; omega, by have := k.hi; omega, k.rg, k.ad⟩
/-! looking up -/
def lkE (a n : Int) : List En → Option Int
  | [] => none
  | e :: r => if e.a = a ∧ e.n = n then some e.x else lkE a n r
theorem lkE_none {a n : Int} : ∀ {A : List En}, (∀ e, e ∈ A → ¬ (e.a = a ∧ e.n = n)) → lkE a n A = none
  | [], _ => rfl
  | e :: r, h => by rw [lkE, if_neg (h e (by simp)), lkE_none (fun f hf => h f (by simp [hf]))]
theorem lkE_l {a n : Int} : ∀ {A B : List En}, (∀ e, e ∈ B → ¬ (e.a = a ∧ e.n = n)) → lkE a n (A ++ B) = lkE a n A
  | [], B, h => lkE_none h
  | e :: r, B, h => by rw [List.cons_append, lkE, lkE, lkE_l h]
theorem lkE_r {a n : Int} : ∀ {A B : List En}, (∀ e, e ∈ A → ¬ (e.a = a ∧ e.n = n)) → lkE a n (A ++ B) = lkE a n B
  | [], B, h => rfl
  | e :: r, B, h => by rw [List.cons_append, lkE, if_neg (h e (by simp)), lkE_r (fun f hf => h f (by simp [hf]))]
/-- What is told of a node. -/
def usO : Option (Bool × Int) → Option Int
  | some (true, x) => some x
  | _ => none
section
variable {pa pn : Int} (hp : rgt pa pn = true)
theorem kid_l {a n : Int} {l : PT} (h : Wf a (n + 1) l) {e : En} (he : e ∈ wkE l) : n + 1 ≤ e.n ∧ a ≤ e.a ∧ e.a < a + (wdN (n + 1) : Int) := by
  have k := wk_in h e he
  exact ⟨k.n, k.lo, k.lt⟩
include hp
theorem gt_lk : ∀ {T : PT} {a0 n0 : Int}, Wf a0 n0 T → lkE pa pn (wkE T) = usO (gtT pa pn T)
  | .nil, _, _, _ => rfl
  | .node a n u x l r, a0, n0, ⟨h1, h2, h3, h4, h5, h6, h7⟩ => by
    have hn := (rgt_iff.1 h2).1
    rw [wkE, gtT, List.append_assoc]
    by_cases he : a = pa ∧ n = pn
    · rw [if_pos he]
      obtain ⟨rfl, rfl⟩ := he
      have hk : ∀ e, e ∈ wkE l ++ wkE r → ¬ (e.a = a ∧ e.n = n) := fun e hm q => by
        rcases List.mem_append.1 hm with hm | hm
        · have := (kid_l h6 hm).1; omega
        · have := (kid_l h7 hm).1; omega
      cases u with
      | true => rw [if_pos rfl, List.cons_append, lkE, if_pos ⟨rfl, rfl⟩]; rfl
      | false => rw [if_neg (by simp), List.nil_append, lkE_none hk]; rfl
    · rw [if_neg he, lkE_r (fun e hm q => by
        cases u with
        | false => cases hm
        | true => simp at hm; subst hm; exact he q)]
      by_cases hge : n ≥ pn
      · rw [if_pos hge, lkE_none (fun e hm q => by
          rcases List.mem_append.1 hm with hm | hm
          · have := (kid_l h6 hm).1; omega
          · have := (kid_l h7 hm).1; omega)]
        rfl
      · rw [if_neg hge]
        have h31 : n ≤ 31 := by have := (rgt_iff.1 hp).1; omega
        have hd := wdN_dbl hn.1 h31
        by_cases hcv : covB a n pa pn = false
        · rw [if_pos hcv, lkE_none (fun e hm q => by
            have hx : ¬ (n ≤ pn ∧ a ≤ pa ∧ pa < a + (wdN n : Int)) := fun z => by rw [← covB_iff h2 hp] at z; rw [hcv] at z; cases z
            rcases List.mem_append.1 hm with hm | hm
            · have := kid_l h6 hm; omega
            · have := kid_l h7 hm; omega)]
          rfl
        · rw [if_neg hcv]
          have hcv : covB a n pa pn = true := by simpa using hcv
          obtain ⟨q1, q2, q3⟩ := (covB_iff h2 hp).1 hcv
          rcases sd_iff h2 h31 q2 q3 with ⟨s, hs⟩ | ⟨s, hs⟩
          · rw [if_pos s, lkE_l (fun e hm q => by have := kid_l h7 hm; omega)]
            exact gt_lk h6
          · rw [if_neg (by omega), lkE_r (fun e hm q => by have := kid_l h6 hm; omega)]
            exact gt_lk h7
end
theorem ge_lk {pa pn : Int} {T : PT} {a0 n0 : Int} (h : Wf a0 n0 T) : geT pa pn T = lkE pa pn (wkE T) := by
  unfold geT
  cases hr : rgt pa pn with
  | false =>
    rw [if_pos rfl, lkE_none (fun e he q => by
      have := (wk_in h e he).rg
      rw [q.1, q.2, hr] at this; cases this)]
  | true => rw [if_neg (by simp), gt_lk hr h]; rfl
/-! an entry more -/
theorem insE_l {a n x : Int} : ∀ {A B : List En}, (∀ e, e ∈ B → ahB a n e.a e.n = true) → insE a n x (A ++ B) = insE a n x A ++ B
  | [], [], _ => rfl
  | [], e :: B, h => by simp [insE, h e (by simp)]
  | f :: A, B, h => by
    rw [List.cons_append, insE, insE]
    split
    · rfl
    · rw [insE_l h]; rfl
theorem insE_r {a n x : Int} : ∀ {A B : List En}, (∀ e, e ∈ A → ahB a n e.a e.n = false) → insE a n x (A ++ B) = A ++ insE a n x B
  | [], B, h => rfl
  | e :: A, B, h => by rw [List.cons_append, insE, h e (by simp), if_neg (by simp), insE_r (fun f hf => h f (by simp [hf]))]; rfl
theorem ahB_lt {a n b m : Int} (h : a < b ∨ (a = b ∧ n < m)) : ahB a n b m = true := by
  unfold ahB
  rcases h with h | ⟨h1, h2⟩
  · rw [decide_eq_true h]; rfl
  · subst h1; simp [h2]
theorem ahB_ge {a n b m : Int} (h : b < a ∨ (a = b ∧ m ≤ n)) : ahB a n b m = false := by
  unfold ahB
  rcases h with h | ⟨h1, h2⟩
  · rw [decide_eq_false (by omega), show (a == b) = false by rw [beq_eq_false_iff_ne]; omega]; rfl
  · subst h1
    rw [decide_eq_false (by omega), decide_eq_false (by omega)]; simp
theorem ins_first {pa pn px : Int} {K : PT} (h : ∀ e, e ∈ wkE K → ahB pa pn e.a e.n = true) : insE pa pn px (wkE K) = ⟨pa, pn, px⟩ :: wkE K := by
  have := insE_l (a := pa) (n := pn) (x := px) (A := []) (B := wkE K) h
  rw [List.nil_append] at this
  rw [this]; rfl
theorem ins_last {pa pn px : Int} {K : PT} (h : ∀ e, e ∈ wkE K → ahB pa pn e.a e.n = false) : insE pa pn px (wkE K) = wkE K ++ [⟨pa, pn, px⟩] := by
  have := insE_r (a := pa) (n := pn) (x := px) (A := wkE K) (B := []) h
  rw [List.append_nil] at this
  rw [this]; rfl
section
variable {pa pn px : Int} (hpa : 0 ≤ pa ∧ pa ≤ 4294967295) (hp : rgt pa pn = true)
include hp
theorem ins_path {a n : Int} {u : Bool} {x : Int} {l r : PT} (h2 : rgt a n = true) (h6 : Wf a (n + 1) l) (h7 : Wf (a + (wdN (n + 1) : Int)) (n + 1) r) (hlt : n < pn) (q2 : a ≤ pa) (q3 : pa < a + (wdN n : Int)) :
    (sdN pa n = 0 ∧ pa < a + (wdN (n + 1) : Int) ∧ insE pa pn px (wkE (.node a n u x l r)) = (if u = true then [⟨a, n, x⟩] else []) ++ insE pa pn px (wkE l) ++ wkE r) ∨
    (sdN pa n = 1 ∧ a + (wdN (n + 1) : Int) ≤ pa ∧ insE pa pn px (wkE (.node a n u x l r)) = (if u = true then [⟨a, n, x⟩] else []) ++ wkE l ++ insE pa pn px (wkE r)) := by
  have hn := (rgt_iff.1 h2).1
  have h31 : n ≤ 31 := by have := (rgt_iff.1 hp).1; omega
  rw [wkE, List.append_assoc]
  have hhd : ∀ e : En, e ∈ (if u = true then [(⟨a, n, x⟩ : En)] else []) → ahB pa pn e.a e.n = false := fun e he => by
    cases u with
    | false => cases he
    | true =>
      simp at he
      subst he
      refine ahB_ge ?_
      show a < pa ∨ (pa = a ∧ n ≤ pn)
      omega
  rw [insE_r hhd]
  rcases sd_iff h2 h31 q2 q3 with ⟨s, hs⟩ | ⟨s, hs⟩
  · refine .inl ⟨s, hs, ?_⟩
    rw [insE_l (fun e he => ahB_lt (.inl (by have := (kid_l h7 he).2.1; omega))), List.append_assoc]
  · refine .inr ⟨s, hs, ?_⟩
    rw [insE_r (fun e he => ahB_ge (.inl (by have := (kid_l h6 he).2.2; omega))), List.append_assoc]
theorem us_law : ∀ {T : PT} {a0 n0 : Int}, Wf a0 n0 T → ∀ y, gtT pa pn T = some (false, y) → wkE (usT pa pn px T) = insE pa pn px (wkE T) ∧ Wf a0 n0 (usT pa pn px T)
  | .nil, _, _, _, y, h => by cases h
  | .node a n u x l r, a0, n0, ⟨h1, h2, h3, h4, h5, h6, h7⟩, y, hg => by
    rw [gtT] at hg
    rw [usT]
    by_cases he : a = pa ∧ n = pn
    · rw [if_pos he] at hg ⊢
      cases hg
      obtain ⟨rfl, rfl⟩ := he
      refine ⟨?_, h1, h2, h3, h4, h5, h6, h7⟩
      rw [wkE, wkE, if_pos rfl, if_neg (by simp), List.nil_append]
      have := insE_l (a := a) (n := n) (x := px) (A := []) (B := wkE l ++ wkE r) (fun e hm => ahB_lt (by
        rcases List.mem_append.1 hm with hm | hm
        · have := kid_l h6 hm; omega
        · have := kid_l h7 hm
          have := wdN_pos (n + 1)
          omega))
      rw [List.nil_append] at this
      rw [this]
      simp [insE]
    · rw [if_neg he] at hg ⊢
      by_cases hge : n ≥ pn
      · rw [if_pos hge] at hg; cases hg
      · rw [if_neg hge] at hg ⊢
        by_cases hcv : covB a n pa pn = false
        · rw [if_pos hcv] at hg; cases hg
        · rw [if_neg hcv] at hg ⊢
          obtain ⟨q1, q2, q3⟩ := (covB_iff h2 hp).1 (by simpa using hcv)
          rcases ins_path (px := px) (u := u) (x := x) hp h2 h6 h7 (by omega) q2 q3 with ⟨s, hs, e⟩ | ⟨s, hs, e⟩
          · rw [if_pos s] at hg ⊢
            obtain ⟨i1, i2⟩ := us_law h6 y hg
            exact ⟨by rw [e, wkE, i1], h1, h2, h3, h4, h5, i2, h7⟩
          · rw [if_neg (by omega)] at hg ⊢
            obtain ⟨i1, i2⟩ := us_law h7 y hg
            exact ⟨by rw [e, wkE, i1], h1, h2, h3, h4, h5, h6, i2⟩
include hpa
theorem ly_fork {ra rn ka kn : Int} {ku : Bool} {kx : Int} {kl kr : PT} (hr : rgt ra rn = true) (h : Wf ra rn (.node ka kn ku kx kl kr)) (hn : rn ≤ pn) (q2 : ra ≤ pa) (q3 : pa < ra + (wdN rn : Int)) (he : ¬ (ka = pa ∧ kn = pn)) (hc : covB ka kn pa pn = false) :
    wkE (forkT pa pn px ka kn (.node ka kn ku kx kl kr)) = insE pa pn px (wkE (.node ka kn ku kx kl kr)) ∧ Wf ra rn (forkT pa pn px ka kn (.node ka kn ku kx kl kr)) ∧ FkOk ka kn pa pn := by
  have hh := h
  obtain ⟨h1, h2, h3, h4, h5, h6, h7⟩ := h
  have F := fk_spec h1 hpa h2 hp he hc
  have hka : ka < ra + (wdN rn : Int) := by have := wdN_pos kn; omega
  have hrn := (rgt_iff.1 hr).1
  have hw1 := wdN_pos pn
  have hle : rn ≤ comN ka kn pa pn := by
    by_cases z : comN ka kn pa pn < rn
    · exfalso
      refine F.sd (by omega) ?_
      obtain ⟨q, hq⟩ := rgt_mod hr
      obtain ⟨t, ht, e⟩ := wdN_mul (show comN ka kn pa pn + 1 ≤ rn by omega)
      have hw := wdN_pos rn
      have e' : (wdN (comN ka kn pa pn + 1) : Int) = (wdN rn : Int) * (t : Int) := by rw [e]; push_cast; rw [Int.mul_comm]
      have dv : ∀ y : Int, ra ≤ y → y < ra + (wdN rn : Int) → y / (wdN rn : Int) = q := fun y z1 z2 => by
        rw [Int.ediv_eq_iff_of_pos (by omega), ← hq]
        exact ⟨z1, z2⟩
      unfold sdN
      rw [e', ← Int.ediv_ediv_of_nonneg (by omega), ← Int.ediv_ediv_of_nonneg (by omega), dv ka h4 hka, dv pa q2 q3]
    · omega
  have hsub : ∀ {b m : Int}, rgt b m = true → rn ≤ m → ra ≤ b → b < ra + (wdN rn : Int) → b + (wdN m : Int) ≤ ra + (wdN rn : Int) := fun hb hm z1 z2 => sub_in hr hb hm z1 z2
  have hca : ra ≤ comA ka kn pa pn := by
    by_cases z : comA ka kn pa pn < ra
    · obtain ⟨q, hq⟩ := rgt_mod hr
      obtain ⟨t, ht, e⟩ := wdN_mul hle
      have z1 := eq_in F.rg (rgt_of (a := ra) F.lo (by have := F.hi; omega) (q * t) (by rw [hq, e]; push_cast; rw [Int.mul_assoc])) (by omega) (by have := F.kh; omega)
      omega
    · omega
  have hall : ∀ e, e ∈ wkE (.node ka kn ku kx kl kr) → InR ka kn e := fun e he => wk_in (hh.move (Int.le_refl _) (Int.le_refl _) (Int.le_refl _)) e he
  have hpk : pa + (wdN pn : Int) ≤ ra + (wdN rn : Int) := hsub hp hn q2 q3
  by_cases hq : comA ka kn pa pn = pa ∧ comN ka kn pa pn = pn
  · obtain ⟨ea, en⟩ := hq
    have hnk := F.nk
    have hkl := F.kl
    have hkh := F.kh
    rw [ea] at hkl hkh
    rw [en] at hnk hkh
    have h31 : pn ≤ 31 := by have := (rgt_iff.1 h2).1; omega
    obtain ⟨u1, u2⟩ := rgt_up hp h31
    have hw : insE pa pn px (wkE (.node ka kn ku kx kl kr)) = ⟨pa, pn, px⟩ :: wkE (.node ka kn ku kx kl kr) := ins_first (fun e hm => ahB_lt (by have := hall e hm; have := this.lo; have := (hall e hm).n; omega))
    rw [hw, forkT, if_pos ⟨ea, en⟩, kidsAt]
    rcases sd_iff hp h31 hkl hkh with ⟨s, hs⟩ | ⟨s, hs⟩
    · rw [if_pos s]
      refine ⟨by simp [wkE], ⟨hpa, hp, hn, q2, hpk, hh.move (by omega) hkl (sub_in u1 h2 (by omega) hkl hs), trivial⟩, ⟨by omega, by rw [en]; omega⟩, fun _ => .inl s, fun z => (z ⟨ea, en⟩).elim⟩
    · rw [if_neg (by omega)]
      have hd := wdN_dbl (rgt_iff.1 hp).1.1 h31
      refine ⟨by simp [wkE], ⟨hpa, hp, hn, q2, hpk, trivial, hh.move (by omega) hs (sub_in u2 h2 (by omega) hs (by omega))⟩, ⟨by omega, by rw [en]; omega⟩, fun _ => .inr s, fun z => (z ⟨ea, en⟩).elim⟩
  · have hlt : comN ka kn pa pn < pn := by
      have := F.np
      by_cases z : comN ka kn pa pn = pn
      · exact (hq ⟨F.eq z, z⟩).elim
      · omega
    have hsd := F.sd hlt
    obtain ⟨u1, u2⟩ := rgt_up F.rg F.hi
    have hd := wdN_dbl F.lo F.hi
    have hcc : comA ka kn pa pn + (wdN (comN ka kn pa pn) : Int) ≤ ra + (wdN rn : Int) := hsub F.rg hle hca (by have := F.kl; omega)
    have hc0 : 0 ≤ comA ka kn pa pn ∧ comA ka kn pa pn ≤ 4294967295 := by
      have := F.kl
      have := F.rg
      refine ⟨?_, by omega⟩
      obtain ⟨q, e⟩ := rgt_mod F.rg
      unfold comA
      have hww := wdN_pos (comN ka kn pa pn)
      have z1 := Int.mul_ediv_add_emod ka (wdN (comN ka kn pa pn) : Int)
      have z2 : 0 ≤ (wdN (comN ka kn pa pn) : Int) * (ka / (wdN (comN ka kn pa pn) : Int)) := Int.mul_nonneg (by omega) (Int.ediv_nonneg h1.1 (by omega))
      omega
    rw [forkT, if_neg hq, kidsAt]
    rcases sd_iff F.rg F.hi F.kl F.kh with ⟨s, hs⟩ | ⟨s, hs⟩
    · rcases sd_iff F.rg F.hi F.pl F.ph with ⟨t, ht⟩ | ⟨t, ht⟩
      · exact absurd (s.trans t.symm) hsd
      · rw [if_pos s]
        have hksub := sub_in u1 h2 (by have := F.nk; omega) F.kl hs
        have hw : insE pa pn px (wkE (.node ka kn ku kx kl kr)) = wkE (.node ka kn ku kx kl kr) ++ [⟨pa, pn, px⟩] := ins_last (fun e hm => ahB_ge (.inl (by have := (hall e hm).lt; omega)))
        refine ⟨by rw [hw]; simp [wkE, nwT], ⟨hc0, F.rg, hle, hca, hcc, hh.move (by have := F.nk; omega) F.kl hksub, ⟨hpa, hp, by omega, ht, sub_in u2 hp (by omega) ht (by have := F.ph; omega), trivial, trivial⟩⟩, ⟨F.lo, F.hi⟩, fun z => (hq z).elim, fun _ => .inl ⟨s, t⟩⟩
    · rcases sd_iff F.rg F.hi F.pl F.ph with ⟨t, ht⟩ | ⟨t, ht⟩
      · rw [if_neg (by omega)]
        have hksub := sub_in u2 h2 (by have := F.nk; omega) hs (by have := F.kh; omega)
        have hw : insE pa pn px (wkE (.node ka kn ku kx kl kr)) = ⟨pa, pn, px⟩ :: wkE (.node ka kn ku kx kl kr) := ins_first (fun e hm => ahB_lt (.inl (by have := (hall e hm).lo; omega)))
        refine ⟨by rw [hw]; simp [wkE, nwT], ⟨hc0, F.rg, hle, hca, hcc, ⟨hpa, hp, by omega, F.pl, sub_in u1 hp (by omega) F.pl ht, trivial, trivial⟩, hh.move (by have := F.nk; omega) hs hksub⟩, ⟨F.lo, F.hi⟩, fun z => (hq z).elim, fun _ => .inr ⟨s, t⟩⟩
      · exact absurd (s.trans t.symm) hsd
theorem ly_law : ∀ {T : PT} {a0 n0 : Int}, Wf a0 n0 T → T.isN = false → (∀ a n u x l r, T = .node a n u x l r → ¬ (a = pa ∧ n = pn) ∧ covB a n pa pn = true) → gtT pa pn T = none →
    wkE (layP pa pn px T) = insE pa pn px (wkE T) ∧ Wf a0 n0 (layP pa pn px T) ∧ LyOk pa pn T
  | .nil, _, _, _, h, _, _ => by cases h
  | .node a n u x l r, a0, n0, ⟨h1, h2, h3, h4, h5, h6, h7⟩, _, hT, hg => by
    obtain ⟨he, hcv⟩ := hT a n u x l r rfl
    obtain ⟨q1, q2, q3⟩ := (covB_iff h2 hp).1 hcv
    have hn := (rgt_iff.1 h2).1
    have hlt : n < pn := by
      by_cases z : n = pn
      · subst z; exact absurd ⟨eq_in h2 hp q2 q3, rfl⟩ he
      · omega
    have h31 : n ≤ 31 := by have := (rgt_iff.1 hp).1; omega
    rw [gtT, if_neg he, if_neg (by omega), if_neg (by rw [hcv]; simp)] at hg
    obtain ⟨u1, u2⟩ := rgt_up h2 h31
    have hd := wdN_dbl hn.1 h31
    have kid : ∀ {K : PT} {ra : Int}, rgt ra (n + 1) = true → Wf ra (n + 1) K → ra ≤ pa → pa < ra + (wdN (n + 1) : Int) → gtT pa pn K = none → (K.isN = false → (∀ a n u x l r, K = .node a n u x l r → ¬ (a = pa ∧ n = pn) ∧ covB a n pa pn = true) → wkE (layP pa pn px K) = insE pa pn px (wkE K) ∧ Wf ra (n + 1) (layP pa pn px K) ∧ LyOk pa pn K) →
        wkE (layK pa pn px K (layP pa pn px K)) = insE pa pn px (wkE K) ∧ Wf ra (n + 1) (layK pa pn px K (layP pa pn px K)) ∧ LyK pa pn K (LyOk pa pn K) := by
      intro K ra hra hw z1 z2 hgk ih
      cases K with
      | nil => exact ⟨rfl, ⟨hpa, hp, by omega, z1, sub_in hra hp (by omega) z1 z2, trivial, trivial⟩, trivial⟩
      | node ka kn ku kx kl kr =>
        have hka := hw.1
        have hkr := hw.2.1
        have hkn := (rgt_iff.1 hkr).1
        have hne : ¬ (ka = pa ∧ kn = pn) := fun z => by rw [gtT, if_pos z] at hgk; cases hgk
        rw [layK, if_neg hne]
        cases hc : covB ka kn pa pn with
        | true =>
          rw [if_pos rfl]
          obtain ⟨i1, i2, i3⟩ := ih rfl (fun a n u x l r e => by cases e; exact ⟨hne, hc⟩)
          exact ⟨i1, i2, hka, hkn.1, fun _ _ => i3, fun _ z => (by rw [hc] at z; cases z)⟩
        | false =>
          rw [if_neg (by simp)]
          obtain ⟨i1, i2, i3⟩ := ly_fork hpa hp hra hw (by omega) z1 z2 hne hc
          exact ⟨i1, i2, hka, hkn.1, fun _ z => (by rw [hc] at z; cases z), fun _ _ => i3⟩
    rcases ins_path (px := px) (u := u) (x := x) hp h2 h6 h7 hlt q2 q3 with ⟨s, hs, e⟩ | ⟨s, hs, e⟩
    · rw [if_pos s] at hg
      obtain ⟨i1, i2, i3⟩ := kid u1 h6 q2 hs hg (fun w1 w2 => ly_law h6 w1 w2 hg)
      rw [layP, if_pos s]
      exact ⟨by rw [e, wkE, i1], ⟨h1, h2, h3, h4, h5, i2, h7⟩, ⟨hn.1, h31⟩, .inl ⟨s, i3⟩⟩
    · rw [if_neg (by omega)] at hg
      obtain ⟨i1, i2, i3⟩ := kid u2 h7 hs (by omega) hg (fun w1 w2 => ly_law h7 w1 w2 hg)
      rw [layP, if_neg (by omega)]
      exact ⟨by rw [e, wkE, i1], ⟨h1, h2, h3, h4, h5, h6, i2⟩, ⟨hn.1, h31⟩, .inr ⟨s, i3⟩⟩
end
end Go.Proofs.Ytfienpkogkepkaa

/- trie: what goes, what is found: plain law. No condition. -/
namespace Go.Proofs.Ytfienpkogkepkaa
set_option linter.unusedVariables false
set_option linter.unusedSimpArgs false
open Go.RowKit E
/-! an entry less -/
def dropE (a n : Int) : List En → List En
  | [] => []
  | e :: r => if e.a = a ∧ e.n = n then r else e :: dropE a n r
theorem dropE_none {a n : Int} : ∀ {A : List En}, (∀ e, e ∈ A → ¬ (e.a = a ∧ e.n = n)) → dropE a n A = A
  | [], _ => rfl
  | e :: r, h => by rw [dropE, if_neg (h e (by simp)), dropE_none (fun f hf => h f (by simp [hf]))]
theorem dropE_l {a n : Int} : ∀ {A B : List En}, (∀ e, e ∈ B → ¬ (e.a = a ∧ e.n = n)) → dropE a n (A ++ B) = dropE a n A ++ B
  | [], B, h => dropE_none h
  | e :: r, B, h => by
    rw [List.cons_append, dropE, dropE, dropE_l h]
    split <;> rfl
theorem dropE_r {a n : Int} : ∀ {A B : List En}, (∀ e, e ∈ A → ¬ (e.a = a ∧ e.n = n)) → dropE a n (A ++ B) = A ++ dropE a n B
  | [], B, h => rfl
  | e :: r, B, h => by rw [List.cons_append, dropE, if_neg (h e (by simp)), dropE_r (fun f hf => h f (by simp [hf]))]; rfl
theorem wk_prT {a n : Int} {u : Bool} {x : Int} {l r : PT} : wkE (prT a n u x l r) = (if u = true then [⟨a, n, x⟩] else []) ++ wkE l ++ wkE r := by
  unfold prT
  split
  · rfl
  · rename_i h
    have hu : u = false := by cases u <;> simp_all
    subst hu
    split
    · rename_i q
      cases l <;> simp_all [PT.isN, wkE]
    · split
      · rename_i q
        cases r <;> simp_all [PT.isN, wkE]
      · rfl
theorem wf_prT {a0 n0 a n : Int} {u : Bool} {x : Int} {l r : PT} (h : Wf a0 n0 (.node a n u x l r)) : Wf a0 n0 (prT a n u x l r) := by
  obtain ⟨h1, h2, h3, h4, h5, h6, h7⟩ := id h
  have hn := (rgt_iff.1 h2).1
  unfold prT
  split
  · exact h
  · split
    · cases r with
      | nil => trivial
      | node a' n' u' x' l' r' =>
        have h31 : n ≤ 31 := by have := (rgt_iff.1 h7.2.1).1; have := h7.2.2.1; omega
        have hd := wdN_dbl hn.1 h31
        exact h7.move (by have := h7.2.2.1; omega) (by have := h7.2.2.2.1; omega) (by have := h7.2.2.2.2.1; omega)
    · split
      · cases l with
        | nil => trivial
        | node a' n' u' x' l' r' =>
          have hm := wdN_mono (show n ≤ n + 1 by omega)
          exact h6.move (by have := h6.2.2.1; omega) (by have := h6.2.2.2.1; omega) (by have := h6.2.2.2.2.1; omega)
      · exact h
theorem pr_law {pa pn : Int} (hp : rgt pa pn = true) : ∀ {T : PT} {a0 n0 : Int}, Wf a0 n0 T → ∀ y, gtT pa pn T = some (true, y) → wkE (prP pa pn T) = dropE pa pn (wkE T) ∧ Wf a0 n0 (prP pa pn T) ∧ inP pa pn T
  | .nil, _, _, _, y, h => by cases h
  | .node a n u x l r, a0, n0, h, y, hg => by
    obtain ⟨h1, h2, h3, h4, h5, h6, h7⟩ := id h
    have hn := (rgt_iff.1 h2).1
    rw [gtT] at hg
    rw [prP]
    by_cases he : a = pa ∧ n = pn
    · rw [if_pos he] at hg ⊢
      cases hg
      refine ⟨?_, wf_prT ⟨h1, h2, h3, h4, h5, h6, h7⟩, .inl he⟩
      rw [wk_prT, wkE, if_pos rfl, if_neg (by simp), List.nil_append, List.append_assoc, List.cons_append, dropE, if_pos he]
      rfl
    · rw [if_neg he] at hg ⊢
      by_cases hge : n ≥ pn
      · rw [if_pos hge] at hg; cases hg
      · rw [if_neg hge] at hg
        by_cases hcv : covB a n pa pn = false
        · rw [if_pos hcv] at hg; cases hg
        · rw [if_neg hcv] at hg
          obtain ⟨q1, q2, q3⟩ := (covB_iff h2 hp).1 (by simpa using hcv)
          have h31 : n ≤ 31 := by have := (rgt_iff.1 hp).1; omega
          have hhd : ∀ e : En, e ∈ (if u = true then [(⟨a, n, x⟩ : En)] else []) → ¬ (e.a = pa ∧ e.n = pn) := fun e hm q => by
            cases u with
            | false => cases hm
            | true => simp at hm; subst hm; exact he q
          rcases sd_iff h2 h31 q2 q3 with ⟨s, hs⟩ | ⟨s, hs⟩
          · rw [if_pos s] at hg ⊢
            obtain ⟨i1, i2, i3⟩ := pr_law hp h6 y hg
            refine ⟨?_, wf_prT ⟨h1, h2, h3, h4, h5, i2, h7⟩, .inr ⟨⟨hn.1, h31⟩, .inl ⟨s, i3⟩⟩⟩
            rw [wk_prT, wkE, List.append_assoc, List.append_assoc, dropE_r hhd, dropE_l (fun e hm q => by have := kid_l h7 hm; omega), i1]
          · rw [if_neg (by omega)] at hg ⊢
            obtain ⟨i1, i2, i3⟩ := pr_law hp h7 y hg
            refine ⟨?_, wf_prT ⟨h1, h2, h3, h4, h5, h6, i2⟩, .inr ⟨⟨hn.1, h31⟩, .inr ⟨s, i3⟩⟩⟩
            rw [wk_prT, wkE, List.append_assoc, List.append_assoc, dropE_r hhd, dropE_r (fun e hm q => by have := kid_l h6 hm; omega), i1]
theorem fdOk_of {pa pn : Int} (hp : pn ≤ 32) : ∀ {T : PT} {a0 n0 : Int}, Wf a0 n0 T → FdOk pa pn T
  | .nil, _, _, _ => trivial
  | .node a n u x l r, a0, n0, ⟨h1, h2, h3, h4, h5, h6, h7⟩ => ⟨h1, fun h => by have := (rgt_iff.1 h2).1; omega, fdOk_of hp h6, fdOk_of hp h7⟩
theorem adOk_of : ∀ {T : PT} {a0 n0 : Int}, Wf a0 n0 T → AdOk T
  | .nil, _, _, _ => trivial
  | .node a n u x l r, a0, n0, ⟨h1, h2, h3, h4, h5, h6, h7⟩ => ⟨h1, adOk_of h6, adOk_of h7⟩
/-! the longest prefix -/
def fE (k : Int) : List En → Option En → Option En
  | [], b => b
  | e :: r, b => fE k r (if hasB e.a e.n k = true ∧ (∀ f, b = some f → e.n > f.n) then some e else b)
theorem fE_app {k : Int} : ∀ {A B : List En} {b : Option En}, fE k (A ++ B) b = fE k B (fE k A b)
  | [], _, _ => rfl
  | e :: A, B, b => by rw [List.cons_append, fE, fE, fE_app]
theorem fE_skip {k : Int} : ∀ {A : List En} {b : Option En}, (∀ e, e ∈ A → hasB e.a e.n k = false) → fE k A b = b
  | [], _, _ => rfl
  | e :: A, b, h => by rw [fE, h e (by simp), if_neg (by simp), fE_skip (fun f hf => h f (by simp [hf]))]
def accOf : Option En → FAc
  | none => ff0
  | some e => ⟨e.a, e.n, e.x, true⟩
theorem has_out {a0 n0 k : Int} {e : En} (h : InR a0 n0 e) (hk : ¬ (a0 ≤ k ∧ k < a0 + (wdN n0 : Int))) : hasB e.a e.n k = false := by
  rw [Bool.eq_false_iff]
  intro q
  have := (hasB_iff h.rg).1 q
  have := h.lo
  have := h.hi
  exact hk (by omega)
theorem ff_law {k : Int} : ∀ {T : PT} {a0 n0 : Int} {b : Option En}, Wf a0 n0 T → (∀ f, b = some f → f.n < n0) → ffO k T (accOf b) = accOf (fE k (wkE T) b)
  | .nil, _, _, _, _, _ => rfl
  | .node a n u x l r, a0, n0, b, h, hb => by
    obtain ⟨h1, h2, h3, h4, h5, h6, h7⟩ := id h
    have hn := (rgt_iff.1 h2).1
    rw [ffO]
    cases hh : hasB a n k with
    | false =>
      rw [if_pos rfl, fE_skip (fun e he => has_out (wk_in (h.move (Int.le_refl _) (Int.le_refl _) (Int.le_refl _)) e he) (fun q => by
        rw [(hasB_iff h2).2 q] at hh; cases hh))]
    | true =>
      rw [if_neg (by simp)]
      obtain ⟨k1, k2⟩ := (hasB_iff h2).1 hh
      have hb' : ∃ b', (if u = true then (⟨a, n, x, true⟩ : FAc) else accOf b) = accOf b' ∧ (∀ f, b' = some f → f.n < n + 1) ∧ fE k (wkE (.node a n u x l r)) b = fE k (wkE r) (fE k (wkE l) b') := by
        cases u with
        | true =>
          refine ⟨some ⟨a, n, x⟩, rfl, fun f hf => by cases hf; show n < n + 1; omega, ?_⟩
          rw [wkE, if_pos rfl, fE_app, fE_app, fE, if_pos ⟨hh, fun f hf => by have := hb f hf; show n > f.n; omega⟩]; rfl
        | false =>
          refine ⟨b, rfl, fun f hf => by have := hb f hf; omega, ?_⟩
          rw [wkE, if_neg (by simp), fE_app, fE_app]; rfl
      obtain ⟨b', e1, e2, e3⟩ := hb'
      rw [e1, e3]
      by_cases h32 : n = 32
      · rw [if_pos h32]
        have z : ∀ {K : PT} {c : Int}, Wf c (n + 1) K → ∀ e, e ∈ wkE K → hasB e.a e.n k = false := fun hw e he => by
          have k := wk_in hw e he
          have := k.n
          have := (rgt_iff.1 k.rg).1
          omega
        rw [fE_skip (z h7), fE_skip (z h6)]
      · rw [if_neg h32]
        have h31 : n ≤ 31 := by omega
        rcases sd_iff h2 h31 k1 k2 with ⟨s, hs⟩ | ⟨s, hs⟩
        · rw [if_pos s, fE_skip (A := wkE r) (fun e he => has_out (wk_in h7 e he) (fun q => by omega))]
          exact ff_law h6 e2
        · rw [if_neg (by omega), fE_skip (A := wkE l) (fun e he => has_out (wk_in h6 e he) (fun q => by omega))]
          exact ff_law h7 e2
theorem fnK_law {k : Int} {l : List En} : ∀ (Y X : List En) (b : Int) (ob : Option En), X ++ Y = l → (b = -1 ∧ ob = none ∨ ∃ (j : Nat) (e : En), b = j ∧ l[j]? = some e ∧ ob = some e) →
    (fnK (enF l) k Y.length X.length b = -1 ∧ fE k Y ob = none ∨ ∃ (j : Nat) (e : En), fnK (enF l) k Y.length X.length b = j ∧ l[j]? = some e ∧ fE k Y ob = some e)
  | [], X, b, ob, hl, h => h
  | y :: Y, X, b, ob, hl, h => by
    have hy : l[X.length]? = some y := by rw [← hl, List.getElem?_append_right (Nat.le_refl _), Nat.sub_self]; rfl
    have ey := enF_get hy
    rw [List.length_cons, fnK, fE, ey]
    have hX : X.length + 1 = (X ++ [y]).length := by simp
    rw [hX]
    refine fnK_law Y (X ++ [y]) _ _ (by simp [hl]) ?_
    rcases h with ⟨rfl, rfl⟩ | ⟨j, e, rfl, h2, rfl⟩
    · by_cases c : hasB y.a y.n k = true
      · rw [if_pos ⟨c, .inl (by omega)⟩, if_pos ⟨c, fun f hf => by cases hf⟩]
        exact .inr ⟨X.length, y, rfl, hy, rfl⟩
      · rw [if_neg (fun q => c q.1), if_neg (fun q => c q.1)]
        exact .inl ⟨rfl, rfl⟩
    · have ee := enF_get h2
      rw [Int.toNat_natCast, ee]
      by_cases c : hasB y.a y.n k = true ∧ y.n > e.n
      · rw [if_pos ⟨c.1, .inr c.2⟩, if_pos ⟨c.1, fun f hf => by cases hf; exact c.2⟩]
        exact .inr ⟨X.length, y, rfl, hy, rfl⟩
      · rw [if_neg (by rintro ⟨q1, q2 | q2⟩; omega; exact c ⟨q1, q2⟩), if_neg (fun q => c ⟨q.1, q.2 e rfl⟩)]
        exact .inr ⟨j, e, rfl, h2, rfl⟩
theorem atK_law {a n : Int} {l : List En} : ∀ (Y X : List En), X ++ Y = l →
    (atK (enF l) a n Y.length X.length = -1 ∧ lkE a n Y = none ∧ dropE a n Y = Y ∨ ∃ (j : Nat) (e : En), atK (enF l) a n Y.length X.length = (X.length + j : Nat) ∧ Y[j]? = some e ∧ lkE a n Y = some e.x ∧ (e.a = a ∧ e.n = n) ∧ dropE a n Y = Y.eraseIdx j)
  | [], X, hl => .inl ⟨rfl, rfl, rfl⟩
  | y :: Y, X, hl => by
    have hy : l[X.length]? = some y := by rw [← hl, List.getElem?_append_right (Nat.le_refl _), Nat.sub_self]; rfl
    have ey := enF_get hy
    rw [List.length_cons, atK, lkE, dropE, ey]
    by_cases h : y.a = a ∧ y.n = n
    · rw [if_pos h, if_pos h, if_pos h]
      exact .inr ⟨0, y, rfl, rfl, rfl, h, rfl⟩
    · rw [if_neg h, if_neg h, if_neg h]
      have hX : X.length + 1 = (X ++ [y]).length := by simp
      rw [hX]
      rcases atK_law (a := a) (n := n) (l := l) Y (X ++ [y]) (by simp [hl]) with ⟨q1, q2, q3⟩ | ⟨j, e, q1, q2, q3, q4, q5⟩
      · exact .inl ⟨q1, q2, by rw [q3]⟩
      · refine .inr ⟨j + 1, e, ?_, by simpa using q2, q3, q4, by rw [q5]; rfl⟩
        rw [q1, ← hX]
        omega
theorem at_law (a n : Int) (l : List En) : (atE a n l = -1 ∧ lkE a n l = none ∧ dropE a n l = l) ∨ ∃ (j : Nat) (e : En), atE a n l = j ∧ l[j]? = some e ∧ lkE a n l = some e.x ∧ (e.a = a ∧ e.n = n) ∧ dropE a n l = l.eraseIdx j := by
  rcases atK_law (a := a) (n := n) l [] rfl with h | ⟨j, e, h1, h2⟩
  · exact .inl h
  · refine .inr ⟨j, e, ?_, h2⟩
    show atK _ _ _ _ _ = _
    rw [List.length_nil, Nat.zero_add] at h1
    exact h1
theorem dropE_len {a n : Int} : ∀ {l : List En} {y : Int}, lkE a n l = some y → (dropE a n l).length + 1 = l.length
  | [], _, h => by cases h
  | e :: r, y, h => by
    rw [lkE] at h
    rw [dropE]
    by_cases c : e.a = a ∧ e.n = n
    · rw [if_pos c]; rfl
    · rw [if_neg c] at h ⊢
      rw [List.length_cons, List.length_cons, dropE_len h]
/-! the table and the document, side by side -/
structure TrOk (T : PT) (l : List En) (c : Int) : Prop where
  wf : Wf 0 0 T
  rt : RtT T
  eq : wkE T = l
  len : c = l.length
  hi : l.length ≤ 4096
theorem TrOk.fdA {T : PT} {l : List En} {c : Int} (h : TrOk T l c) {pa pn : Int} (ha : 0 ≤ pa ∧ pa ≤ 4294967295) : FdA pa pn T := by
  refine ⟨ha, ?_, fun hr => fdOk_of (by have := (rgt_iff.1 hr).1; omega) h.wf⟩
  cases T with
  | nil => exact h.rt.elim
  | node a n u x l r => rfl
theorem TrOk.get {T : PT} {l : List En} {c : Int} (h : TrOk T l c) (pa pn : Int) : geT pa pn T = lkE pa pn l := by rw [ge_lk h.wf, h.eq]
theorem wdN_0 : wdN 0 = 4294967296 := by unfold wdN; rfl
theorem root_cov {pa pn : Int} (ha : 0 ≤ pa ∧ pa ≤ 4294967295) (hp : rgt pa pn = true) {a n : Int} {u : Bool} {x : Int} {l r : PT} (hw : Wf 0 0 (.node a n u x l r)) (hr : RtT (.node a n u x l r)) : covB a n pa pn = true := by
  have h0 : n = 0 := hr
  subst h0
  obtain ⟨h1, h2, h3, h4, h5, _⟩ := hw
  rw [covB_iff h2 hp]
  have := (rgt_iff.1 hp).1
  have e := wdN_0
  rw [e] at h5 ⊢
  omega
theorem us_root {pa pn px : Int} {T : PT} (h : RtT T) : RtT (usT pa pn px T) := by
  cases T with
  | nil => exact h
  | node a n u x l r =>
    have h : n = 0 := h
    rw [usT]
    repeat' split
    all_goals exact h
theorem ly_root {pa pn px : Int} {T : PT} (h : RtT T) : RtT (layP pa pn px T) := by
  cases T with
  | nil => exact h
  | node a n u x l r =>
    have h : n = 0 := h
    rw [layP]
    split
    all_goals exact h
theorem pr_root {pa pn : Int} {T : PT} (h : RtT T) : RtT (prP pa pn T) := by
  cases T with
  | nil => exact h
  | node a n u x l r =>
    obtain ⟨u', x', l', r', e⟩ := prP_root (pa := pa) (pn := pn) (a := a) (u := u) (x := x) (l := l) (r := r) (show n = 0 from h)
    rw [e]
    exact h
theorem put_ok {T : PT} {l : List En} {c : Int} (h : TrOk T l c) {pa pn : Int} (px : Int) (ha : 0 ≤ pa ∧ pa ≤ 4294967295) :
    (rgt pa pn = true → gtT pa pn T = none → 0 ≤ pn ∧ LyOk pa pn T) ∧ (puR pa pn px T c).e = (puE pa pn px l).e ∧ TrOk (puR pa pn px T c).T (puE pa pn px l).l (puR pa pn px T c).c := by
  have hL : rgt pa pn = true → gtT pa pn T = none → 0 ≤ pn ∧ (wkE (layP pa pn px T) = insE pa pn px (wkE T) ∧ Wf 0 0 (layP pa pn px T) ∧ LyOk pa pn T) := fun hr hg => by
    refine ⟨(rgt_iff.1 hr).1.1, ly_law (px := px) ha hr h.wf (h.fdA (pn := pn) ha).2.1 (fun a n u x l' r e => ?_) hg⟩
    have hw := h.wf
    have hrt := h.rt
    rw [e] at hw hrt hg
    exact ⟨fun z => (by rw [gtT, if_pos z] at hg; cases hg), root_cov ha hr hw hrt⟩
  refine ⟨fun hr hg => ⟨(hL hr hg).1, (hL hr hg).2.2.2⟩, ?_⟩
  unfold puR puE
  cases hr : rgt pa pn with
  | false => rw [if_pos (show false = false from rfl), if_pos (show false = false from rfl)]; exact ⟨rfl, h⟩
  | true =>
    rw [if_neg (show ¬ (true = false) by simp), if_neg (show ¬ (true = false) by simp)]
    have hlk := gt_lk hr h.wf
    rw [h.eq] at hlk
    have hc := h.len
    cases hg : gtT pa pn T with
    | none =>
      rw [hg] at hlk
      rcases at_law pa pn l with ⟨q1, q2, q3⟩ | ⟨j, e, q1, q2, q3, q4⟩
      · rw [if_neg (show ¬ atE pa pn l ≥ 0 by omega)]
        simp only
        by_cases hf : c ≥ 4096
        · rw [if_pos hf, if_pos (show l.length ≥ 4096 by omega)]; exact ⟨rfl, h⟩
        · rw [if_neg hf, if_neg (show ¬ l.length ≥ 4096 by omega)]
          obtain ⟨_, i1, i2, i3⟩ := hL hr hg
          exact ⟨rfl, i2, ly_root h.rt, by rw [i1, h.eq], by rw [insE_len]; show c + 1 = _; omega, by rw [insE_len]; omega⟩
      · rw [q3] at hlk; cases hlk
    | some y =>
      obtain ⟨u, y⟩ := y
      cases u with
      | true =>
        rw [hg] at hlk
        rcases at_law pa pn l with ⟨q1, q2, q3⟩ | ⟨j, e, q1, q2, q3, q4⟩
        · rw [q2] at hlk; cases hlk
        · rw [if_pos (show atE pa pn l ≥ 0 by omega)]; exact ⟨rfl, h⟩
      | false =>
        rw [hg] at hlk
        rcases at_law pa pn l with ⟨q1, q2, q3⟩ | ⟨j, e, q1, q2, q3, q4⟩
        · rw [if_neg (show ¬ atE pa pn l ≥ 0 by omega)]
          simp only
          by_cases hf : c ≥ 4096
          · rw [if_pos hf, if_pos (show l.length ≥ 4096 by omega)]; exact ⟨rfl, h⟩
          · rw [if_neg hf, if_neg (show ¬ l.length ≥ 4096 by omega)]
            obtain ⟨i1, i2⟩ := us_law (px := px) hr h.wf y hg
            exact ⟨rfl, i2, us_root h.rt, by rw [i1, h.eq], by rw [insE_len]; show c + 1 = _; omega, by rw [insE_len]; omega⟩
        · rw [q3] at hlk; cases hlk
theorem drop_ok {T : PT} {l : List En} {c : Int} (h : TrOk T l c) {pa pn : Int} : (geT pa pn T ≠ none → inP pa pn T ∧ 0 < c) ∧ xOf (geT pa pn T) = (drE pa pn l).x ∧ boolOf (geT pa pn T) = (drE pa pn l).b ∧ TrOk (drR pa pn T c).T (drE pa pn l).l (drR pa pn T c).c := by
  have hg := h.get pa pn
  have hc := h.len
  rcases at_law pa pn l with ⟨q1, q2, q3⟩ | ⟨j, e, q1, q2, q3, q4, q5⟩
  · rw [q2] at hg
    unfold drR drE
    rw [hg, if_pos (by omega)]
    exact ⟨fun z => (z rfl).elim, rfl, rfl, h⟩
  · rw [q3] at hg
    have hT : rgt pa pn = true ∧ ∃ y, gtT pa pn T = some (true, y) := by
      unfold geT at hg
      cases hr : rgt pa pn with
      | false => rw [if_pos hr] at hg; cases hg
      | true =>
        rw [if_neg (by simp [hr])] at hg
        refine ⟨rfl, ?_⟩
        cases hh : gtT pa pn T with
        | none => rw [hh] at hg; cases hg
        | some z =>
          obtain ⟨u, z⟩ := z
          rw [hh] at hg
          cases u with
          | false => cases hg
          | true => exact ⟨z, rfl⟩
    obtain ⟨hr, y, hy⟩ := hT
    obtain ⟨i1, i2, i3⟩ := pr_law hr h.wf y hy
    have hlen := dropE_len q3
    have hj := (List.getElem?_eq_some_iff.1 q2).1
    unfold drR drE
    rw [hg, if_neg (by omega), q1, Int.toNat_natCast, enF_get q2]
    refine ⟨fun _ => ⟨i3, by omega⟩, rfl, rfl, i2, pr_root h.rt, ?_, ?_, ?_⟩
    · rw [i1, h.eq, q5]
    · show c - 1 = ((l.eraseIdx j).length : Int)
      rw [← q5]; omega
    · show (l.eraseIdx j).length ≤ 4096
      rw [← q5]; have := h.hi; omega
theorem find_ok {T : PT} {l : List En} {c : Int} (h : TrOk T l c) (k : Int) : ffO k T ff0 = accOf (fE k l none) ∧ ((fnK (enF l) k l.length 0 (-1) = -1 ∧ fE k l none = none) ∨ ∃ (j : Nat) (e : En), fnK (enF l) k l.length 0 (-1) = j ∧ l[j]? = some e ∧ fE k l none = some e) := by
  refine ⟨?_, fnK_law l [] (-1) none rfl (.inl ⟨rfl, rfl⟩)⟩
  have := ff_law (k := k) (b := none) h.wf (fun f hf => by cases hf)
  rw [h.eq] at this
  exact this
theorem TrOk.ad {T : PT} {l : List En} {c : Int} (h : TrOk T l c) : adL l.length (enF l) := fun i hi => by
  have hm : l[i]? = some l[i] := List.getElem?_eq_getElem hi
  rw [enF_get hm]
  have := (wk_in h.wf l[i] (by rw [h.eq]; exact List.getElem_mem hi)).ad
  exact this
theorem em_ok : TrOk emT [] 0 := ⟨⟨⟨by decide, by decide⟩, by unfold rgt wdN; decide, by decide, by decide, by decide, trivial, trivial⟩, rfl, rfl, rfl, by decide⟩
/-! what an address finds stays -/
theorem fE_ins {a n x k : Int} (hk : hasB a n k = false) : ∀ {l : List En} {b : Option En}, fE k (insE a n x l) b = fE k l b
  | [], b => by rw [insE, fE, fE, hk]; simp [fE]
  | e :: r, b => by
    rw [insE]
    split
    · rw [fE, hk, if_neg (by simp)]
    · rw [fE, fE, fE_ins hk]
theorem fE_drop {a n k : Int} (hk : hasB a n k = false) : ∀ {l : List En} {b : Option En}, fE k (dropE a n l) b = fE k l b
  | [], b => rfl
  | e :: r, b => by
    rw [dropE]
    split
    · rename_i h
      rw [fE, h.1, h.2, hk, if_neg (by simp)]
    · rw [fE, fE, fE_drop hk]
theorem fE_has {k : Int} : ∀ {l : List En} {b : Option En}, (∀ f, b = some f → hasB f.a f.n k = true) → ∀ e, fE k l b = some e → hasB e.a e.n k = true
  | [], b, hb, e, h => hb e h
  | y :: r, b, hb, e, h => by
    rw [fE] at h
    refine fE_has ?_ e h
    intro f hf
    split at hf
    · rename_i q; cases hf; exact q.1
    · exact hb f hf
end Go.Proofs.Ytfienpkogkepkaa
