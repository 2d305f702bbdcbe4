/- header: a datagram with another byte in its head is not taken. No condition. -/
import Derived.Test.YteehpliloegkgaaHeH
namespace Go.Proofs.Yteehpliloegkgaa
set_option linter.unusedVariables false
set_option linter.unusedSimpArgs false
open Go.RowKit E
theorem ints_with (s : ByteArray) (k : Nat) (c : Int) (hc : 0 ≤ c ∧ c ≤ 255) (hk : k < s.size) : ints (withZ s k c) = (ints s).set k c := by
  unfold withZ
  rw [ints_app, ints_app, ints_cut, ints_cut, strL_ints (fun x hx => by rw [List.mem_singleton] at hx; omega), List.drop_zero, Nat.sub_zero, List.take_of_length_le (l := (ints s).drop (k + 1)) (by rw [List.length_drop, ints_len]; omega), List.set_eq_take_append_cons_drop, if_pos (by rw [ints_len]; exact hk), List.append_assoc]
  rfl
theorem size_with (s : ByteArray) (k : Nat) (c : Int) (hc : 0 ≤ c ∧ c ≤ 255) (hk : k < s.size) : (withZ s k c).size = s.size := by
  rw [← ints_len, ints_with s k c hc hk, List.length_set, ints_len]
theorem at_with (s : ByteArray) (k : Nat) (c : Int) (hc : 0 ≤ c ∧ c ≤ 255) (hk : k < s.size) (j : Nat) (hj : j < s.size) : byteAt (withZ s k c) (j : Nat) = if k = j then c else byteAt s (j : Nat) := by
  have h1 : j < (ints (withZ s k c)).length := by rw [ints_len, size_with s k c hc hk]; exact hj
  have h2 : j < (ints s).length := by rw [ints_len]; exact hj
  rw [← ints_at _ _ h1, ← ints_at _ _ h2]
  have h3 : j < ((ints s).set k c).length := by rw [List.length_set]; exact h2
  have : (ints (withZ s k c))[j] = ((ints s).set k c)[j] := by
    congr 1; exact ints_with s k c hc hk
  rw [this, List.getElem_set]
theorem with_same (s : ByteArray) (k : Nat) (hk : k < s.size) : withZ s k (byteAt s (k : Nat)) = s := by
  have b := byteAt_bd s (k : Nat)
  apply ints_ext
  rw [ints_with s k _ (by omega) hk]
  have h2 : k < (ints s).length := by rw [ints_len]; exact hk
  rw [← ints_at s k h2, List.set_getElem_self]
theorem tk0F {s : ByteArray} (h : tkE s = 0) : 28 ≤ s.size ∧ formZ s = true ∧ hfZ s 10 = sumZ s := by
  unfold tkE at h
  split at h
  · omega
  · split at h
    · omega
    · split at h
      · rename_i a b c
        exact ⟨by omega, by cases q : formZ s <;> simp_all, c⟩
      · omega
/-- The numbers of the head, added. -/
def sumH (f : Int → Int) : Int := (f 0 * 256 + f 1) + (f 2 * 256 + f 3) + (f 4 * 256 + f 5) + (f 6 * 256 + f 7) + (f 8 * 256 + f 9) + (f 12 * 256 + f 13) + (f 14 * 256 + f 15) + (f 16 * 256 + f 17) + (f 18 * 256 + f 19)
theorem inL_first {a b : Int} {l : List Int} (hb : inB (a :: b :: l)) (h : 0 < a) : 0 < inL 0 (a :: b :: l) := by
  have h1 := hb _ (List.mem_cons_self ..)
  have h2 := hb _ (List.mem_cons_of_mem _ (List.mem_cons_self ..))
  exact inL_pos l _ (fun x hx => hb x (List.mem_cons_of_mem _ (List.mem_cons_of_mem _ hx))) (ringZ_bd (by omega) (by omega)) (ring_pos (by omega) (by omega) (.inr (by omega)))
theorem tk_sum {s : ByteArray} (h : tkE s = 0) : (65535 - hfZ s 10) % 65535 = sumH (byteAt s) % 65535 ∧ 0 < 65535 - hfZ s 10 ∧ 65535 - hfZ s 10 ≤ 65535 := by
  obtain ⟨h1, h2, h3⟩ := tk0F h
  have q := of_decide_eq_true h2
  have hb : inB (l10 s ++ (w2 0 ++ l12 s)) := inB_app (l_inB s).1 (inB_app (w2_inB (by omega)) (l_inB s).2)
  have bd := inL_bd _ 0 hb (by omega)
  have m := inL_mod _ 0 hb (by omega)
  have e0 : prL (l10 s ++ (w2 0 ++ l12 s)) = sumH (byteAt s) := by
    simp only [l10, l12, w2, List.cons_append, List.nil_append, prL, sumH]; omega
  rw [e0] at m
  have pos : 0 < inL 0 (l10 s ++ (w2 0 ++ l12 s)) := by
    have q0 := q.1
    obtain ⟨l, e⟩ : ∃ l, l10 s ++ (w2 0 ++ l12 s) = byteAt s 0 :: byteAt s 1 :: l := ⟨_, rfl⟩
    rw [e] at hb ⊢
    exact inL_first hb (by omega)
  rw [h3, sum_l s h1]
  unfold inetL
  omega
theorem sum_q {S T q : Int} (m1 : (65535 - q) % 65535 = S % 65535) (m2 : (65535 - q) % 65535 = T % 65535) (h : -65535 < T - S ∧ T - S < 65535) : T = S := by omega
theorem q_sum {S T q r : Int} (m1 : (65535 - q) % 65535 = S % 65535) (m2 : (65535 - r) % 65535 = T % 65535) (p1 : 0 < 65535 - q) (p2 : 65535 - q ≤ 65535) (p3 : 0 < 65535 - r) (p4 : 65535 - r ≤ 65535) (h : S = T) : q = r := by omega
set_option maxHeartbeats 1000000 in
theorem finds {s : ByteArray} (h : tkE s = 0) (k : Nat) (hk : k < 20) (c : Int) (hc : 0 ≤ c ∧ c ≤ 255) : tkE (withZ s k c) = 0 ↔ withZ s k c = s := by
  have hs := (tk0F h).1
  refine ⟨fun ht => ?_, fun e => by rw [e]; exact h⟩
  suffices hcc : c = byteAt s (k : Nat) by rw [hcc]; exact with_same s k (by omega)
  obtain ⟨m1, p1, p2⟩ := tk_sum h
  obtain ⟨m2, p3, p4⟩ := tk_sum ht
  have a : ∀ (j : Nat) (z : Int), (j : Int) = z → j < 20 → byteAt (withZ s k c) z = if k = j then c else byteAt s z := fun j z e hj => by subst e; exact at_with s k c hc (by omega) j (by omega)
  have a0 := a 0 0 rfl (by omega)
  have a1 := a 1 1 rfl (by omega)
  have a2 := a 2 2 rfl (by omega)
  have a3 := a 3 3 rfl (by omega)
  have a4 := a 4 4 rfl (by omega)
  have a5 := a 5 5 rfl (by omega)
  have a6 := a 6 6 rfl (by omega)
  have a7 := a 7 7 rfl (by omega)
  have a8 := a 8 8 rfl (by omega)
  have a9 := a 9 9 rfl (by omega)
  have a10 := a 10 10 rfl (by omega)
  have a11 := a 11 11 rfl (by omega)
  have a12 := a 12 12 rfl (by omega)
  have a13 := a 13 13 rfl (by omega)
  have a14 := a 14 14 rfl (by omega)
  have a15 := a 15 15 rfl (by omega)
  have a16 := a 16 16 rfl (by omega)
  have a17 := a 17 17 rfl (by omega)
  have a18 := a 18 18 rfl (by omega)
  have a19 := a 19 19 rfl (by omega)
  have f : ∀ (s : ByteArray) (k : Int), hfZ s k = byteAt s k * 256 + byteAt s (k + 1) := fun _ _ => rfl
  have g10 := f s 10
  have g11 := f (withZ s k c) 10
  obtain ⟨z, hz⟩ : ∃ z : Int, (k : Int) = z := ⟨_, rfl⟩
  have bd := byteAt_bd s z
  rw [hz]
  unfold sumH at m1 m2
  simp only [show (10 : Int) + 1 = 11 from rfl] at g10 g11
  rw [a10, a11] at g11
  rw [a0, a1, a2, a3, a4, a5, a6, a7, a8, a9, a12, a13, a14, a15, a16, a17, a18, a19] at m2
  rw [g11] at m2 p3 p4
  rw [g10] at m1 p1 p2
  clear a a0 a1 a2 a3 a4 a5 a6 a7 a8 a9 a10 a11 a12 a13 a14 a15 a16 a17 a18 a19 f g10 g11 ht h
  rcases (show k = 0 ∨ k = 1 ∨ k = 2 ∨ k = 3 ∨ k = 4 ∨ k = 5 ∨ k = 6 ∨ k = 7 ∨ k = 8 ∨ k = 9 ∨ k = 10 ∨ k = 11 ∨ k = 12 ∨ k = 13 ∨ k = 14 ∨ k = 15 ∨ k = 16 ∨ k = 17 ∨ k = 18 ∨ k = 19 by omega) with rfl | rfl | rfl | rfl | rfl | rfl | rfl | rfl | rfl | rfl | rfl | rfl | rfl | rfl | rfl | rfl | rfl | rfl | rfl | rfl <;>
    (norm_cast at hz
     subst hz
     simp (config := {decide := true}) only [if_true, if_false, ite_true, ite_false] at m2 p3 p4
     first
     | (have e1 := sum_q m1 m2 (by omega); omega)
     | (have e1 := q_sum m1 m2 p1 p2 p3 p4 rfl; omega))
end Go.Proofs.Yteehpliloegkgaa
