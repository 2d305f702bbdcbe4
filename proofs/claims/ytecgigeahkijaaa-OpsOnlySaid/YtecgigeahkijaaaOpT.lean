/- ops: what a text's operations are; two texts, one behind the other: plain laws. No condition. -/
import Derived.Test.YtecgigeahkijaaaOpQ
namespace Go.Proofs.Ytecgigeahkijaaa
set_option linter.unusedVariables false
set_option linter.unusedSimpArgs false
open Go.RowKit E

theorem off_next {s : ByteArray} {i : Nat} (h : offO s i < s.size) (hw : oneW (fromZ s (offO s i)) = true) : offO s (i + 1) ≤ s.size ∧ offO s i < offO s (i + 1) := by
  have hts := fromZ_size (Nat.le_of_lt h)
  have h1 := oneL_le (s := fromZ s (offO s i)) (by rw [hts]; omega) hw
  have h2 := oneL_pos (fromZ s (offO s i))
  rw [offO]
  omega
theorem cnt_spec (s : ByteArray) : ∀ (f i : Nat), offO s i ≤ s.size → s.size - offO s i ≤ f →
    ((cntO s f i).2 = false ∧ offO s (i + (cntO s f i).1) = s.size ∧ ∀ j, i ≤ j → j < i + (cntO s f i).1 → oneW (fromZ s (offO s j)) = true ∧ offO s j < s.size) ∨
    ((cntO s f i).2 = true ∧ ∃ p, (cntO s f i).1 = p + 1 ∧ offO s (i + p) < s.size ∧ oneW (fromZ s (offO s (i + p))) = false ∧ ∀ j, i ≤ j → j < i + p → oneW (fromZ s (offO s j)) = true ∧ offO s j < s.size)
  | 0, i, h1, h2 => .inl ⟨rfl, by show offO s i = s.size; omega, fun j a b => absurd b (by show ¬ j < i; omega)⟩
  | f + 1, i, h1, h2 => by
    rw [cntO]
    by_cases q : s.size ≤ offO s i
    · rw [if_pos q]
      exact .inl ⟨rfl, by show offO s i = s.size; omega, fun j a b => absurd b (by show ¬ j < i; omega)⟩
    · rw [if_neg q]
      by_cases w : oneW (fromZ s (offO s i)) = true
      · rw [if_pos w]
        obtain ⟨n1, n2⟩ := off_next (by omega) w
        rcases cnt_spec s f (i + 1) n1 (by omega) with ⟨a1, a2, a3⟩ | ⟨a1, p, a2, a3, a4, a5⟩
        · refine .inl ⟨a1, ?_, fun j b1 b2 => ?_⟩
          · show offO s (i + ((cntO s f (i + 1)).1 + 1)) = s.size
            rw [show i + ((cntO s f (i + 1)).1 + 1) = i + 1 + (cntO s f (i + 1)).1 by omega]; exact a2
          · by_cases e : j = i
            · subst e; exact ⟨w, by omega⟩
            · exact a3 j (by omega) (by have : j < i + ((cntO s f (i + 1)).1 + 1) := b2; omega)
        · refine .inr ⟨a1, p + 1, by show (cntO s f (i + 1)).1 + 1 = _; omega, ?_, ?_, fun j b1 b2 => ?_⟩
          · rw [show i + (p + 1) = i + 1 + p by omega]; exact a3
          · rw [show i + (p + 1) = i + 1 + p by omega]; exact a4
          · by_cases e : j = i
            · subst e; exact ⟨w, by omega⟩
            · exact a5 j (by omega) (by omega)
      · rw [if_neg w]
        exact .inr ⟨rfl, 0, rfl, by show offO s i < s.size; omega, Bool.eq_false_iff.2 w, fun j a b => absurd b (by omega)⟩
theorem torn_x {t : ByteArray} (h : oneW t = false) : oneX t = ⟨5, 0, 0, 0, 0⟩ := by
  unfold oneW at h
  split at h
  · cases h
  · rename_i q
    have := of_decide_eq_false h
    unfold oneX
    rw [if_neg q, if_pos this]
/-- What is whole is put as it stood. -/
theorem only_take {s : ByteArray} : ∀ (n : Nat), (∀ j, j < n → oneW (fromZ s (offO s j)) = true ∧ offO s j < s.size) → allR (opX s) n = true ∧ (∀ j, j < n → (opX s j).wf ∧ (opX s j).k ≠ 5) ∧ opsL (opX s) n = (ints s).take (offO s n)
  | 0, _ => ⟨rfl, fun j hj => absurd hj (Nat.not_lt_zero j), rfl⟩
  | n + 1, h => by
    obtain ⟨b1, b2, b3⟩ := only_take n (fun j hj => h j (by omega))
    obtain ⟨w, l⟩ := h n (Nat.lt_succ_self n)
    have hts := fromZ_size (Nat.le_of_lt l)
    obtain ⟨o1, o2, o3⟩ := oneO_take (t := fromZ s (offO s n)) (by rw [hts]; omega) w
    have o4 := ((rgt_iff _).1 o2).2.1
    refine ⟨by rw [allR, b1]; exact o2, fun j hj => ?_, ?_⟩
    · by_cases e : j = n
      · subst e; exact ⟨o1, by show (oneX (fromZ s (offO s j))).k ≠ 5; omega⟩
      · exact b2 j (by omega)
    · rw [opsL, b3, offO, List.take_add]
      show _ ++ opL (oneX (fromZ s (offO s n))) = _
      rw [o3, fromZ_ints]
theorem numO_spec (s : ByteArray) : (tornO s = false ∧ offO s (numO s) = s.size ∧ ∀ j, j < numO s → oneW (fromZ s (offO s j)) = true ∧ offO s j < s.size) ∨
    (tornO s = true ∧ ∃ p, numO s = p + 1 ∧ offO s p < s.size ∧ oneW (fromZ s (offO s p)) = false ∧ ∀ j, j < p → oneW (fromZ s (offO s j)) = true ∧ offO s j < s.size) := by
  rcases cnt_spec s s.size 0 (Nat.zero_le _) (Nat.sub_le _ _) with ⟨a1, a2, a3⟩ | ⟨a1, p, a2, a3, a4, a5⟩
  · rw [Nat.zero_add] at a2
    exact .inl ⟨a1, a2, fun j hj => a3 j (Nat.zero_le _) (by rw [Nat.zero_add]; exact hj)⟩
  · rw [Nat.zero_add] at a3 a4
    exact .inr ⟨a1, p, a2, a3, a4, fun j hj => a5 j (Nat.zero_le _) (by omega)⟩
theorem cnt_fuel (s : ByteArray) : ∀ (f g i : Nat), offO s i ≤ s.size → s.size - offO s i ≤ f → s.size - offO s i ≤ g → cntO s f i = cntO s g i
  | 0, 0, i, _, _, _ => rfl
  | 0, g + 1, i, h1, h2, h3 => by rw [cntO, cntO, if_pos (by omega)]
  | f + 1, 0, i, h1, h2, h3 => by rw [cntO, cntO, if_pos (by omega)]
  | f + 1, g + 1, i, h1, h2, h3 => by
    rw [cntO, cntO]
    by_cases q : s.size ≤ offO s i
    · rw [if_pos q, if_pos q]
    · rw [if_neg q, if_neg q]
      by_cases w : oneW (fromZ s (offO s i)) = true
      · obtain ⟨n1, n2⟩ := off_next (by omega) w
        rw [if_pos w, if_pos w, cnt_fuel s f g (i + 1) n1 (by omega) (by omega)]
      · rw [if_neg w, if_neg w]
/-- Two texts, one behind the other: the first one is not torn. -/
theorem both_ops {s t : ByteArray} (h : tornO s = false) :
    numO (s ++ t) = numO s + numO t ∧ ∀ j, opX (s ++ t) j = if j < numO s then opX s j else if j < numO s + numO t then opX t (j - numO s) else opX (s ++ t) j := by
  rcases numO_spec s with ⟨a1, a2, a3⟩ | ⟨a1, _⟩
  · obtain ⟨b1, b2, b3⟩ := only_take (numO s) a3
    have hl := ints_len s
    rw [a2, List.take_of_length_le (by omega)] at b3
    have hint : ints (s ++ t) = opsL (opX s) (numO s) ++ ints t := by rw [b3, ints_app]
    have hsz : (s ++ t).size = s.size + t.size := ByteArray.size_append
    obtain ⟨r1, r2⟩ := read_put hint b1 (fun i hi => (b2 i hi).1) (numO s) (Nat.le_refl _)
    rw [b3, hl] at r1
    have off : ∀ j, offO (s ++ t) (numO s + j) = s.size + offO t j ∧ fromZ (s ++ t) (offO (s ++ t) (numO s + j)) = fromZ t (offO t j) := by
      intro j
      have fz : ∀ k, fromZ (s ++ t) (s.size + k) = fromZ t k := fun k => ints_ext (by
        rw [fromZ_ints, fromZ_ints, ints_app, ← List.drop_drop, List.drop_left' hl])
      induction j with
      | zero => exact ⟨r1, by rw [Nat.add_zero, r1]; exact fz 0⟩
      | succ j ih =>
        have e : offO (s ++ t) (numO s + (j + 1)) = s.size + offO t (j + 1) := by
          rw [show numO s + (j + 1) = numO s + j + 1 by omega, offO, offO, ih.2, ih.1]; omega
        exact ⟨e, by rw [e]; exact fz _⟩
    have c1 : ∀ f j, cntO (s ++ t) f (numO s + j) = cntO t f j := by
      intro f
      induction f with
      | zero => intro j; rfl
      | succ f ih =>
        intro j
        rw [cntO, cntO, (off j).2, (off j).1, hsz]
        rw [show numO s + j + 1 = numO s + (j + 1) by omega, ih (j + 1)]
        by_cases q : t.size ≤ offO t j
        · rw [if_pos (by omega), if_pos q]
        · rw [if_neg (by omega), if_neg q]
    have c2 : ∀ k f i, i + k = numO s → k ≤ f → (cntO (s ++ t) f i).1 = k + (cntO t (f - k) 0).1 := by
      intro k
      induction k with
      | zero => intro f i hi hf; have := c1 f 0; rw [Nat.add_zero] at this; rw [show i = numO s by omega, this]; simp
      | succ k ih =>
        intro f i hi hf
        obtain ⟨f, rfl⟩ : ∃ g, f = g + 1 := ⟨f - 1, by omega⟩
        obtain ⟨w1, w2, w3⟩ := r2 i (by omega)
        rw [cntO, if_neg (by omega), if_pos w2]
        show (cntO (s ++ t) f (i + 1)).1 + 1 = _
        rw [ih f (i + 1) (by omega) (by omega), show f + 1 - (k + 1) = f - k by omega]
        omega
    have hN := numO_le s
    have e1 := c2 (numO s) (s ++ t).size 0 (by omega) (by omega)
    rw [cnt_fuel t ((s ++ t).size - numO s) t.size 0 (Nat.zero_le _) (by omega) (by omega)] at e1
    refine ⟨e1, fun j => ?_⟩
    by_cases q : j < numO s
    · rw [if_pos q]; exact (r2 j q).1
    · rw [if_neg q]
      by_cases q2 : j < numO s + numO t
      · rw [if_pos q2]
        have := (off (j - numO s)).2
        rw [show numO s + (j - numO s) = j by omega] at this
        show oneX (fromZ (s ++ t) (offO (s ++ t) j)) = oneX (fromZ t (offO t (j - numO s)))
        rw [this]
      · rw [if_neg q2]
  · rw [h] at a1; cases a1
end Go.Proofs.Ytecgigeahkijaaa
