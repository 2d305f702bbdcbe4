/- wire: fields read: plain functions. No condition. -/
import Derived.Test.YtecgigeahkijaaaWsA
namespace Go.Proofs.Ytecgigeahkijaaa
set_option linter.unusedVariables false
set_option linter.unusedSimpArgs false
open Go.RowKit E

/-- A text with which a row begins: the text, how many bytes, what is wrong. -/
def txtZ (s : ByteArray) : ByteArray × Int × Int :=
  if (numZ s).2.2 ≠ 0 then (.empty, 0, (numZ s).2.2)
  else if 65535 < (numZ s).1 then (.empty, 0, 4)
  else if (s.size : Int) - (numZ s).2.1 < (numZ s).1 then (.empty, 0, 2)
  else (s.extract (numZ s).2.1.toNat ((numZ s).2.1 + (numZ s).1).toNat, (numZ s).2.1 + (numZ s).1, 0)
/-- A field with which a row begins: its number, its text, how many bytes, what is wrong. -/
def oneZ (s : ByteArray) (k : Int) : Int × ByteArray × Int × Int :=
  if 0 < widthZ k then (fixV s (widthZ k), .empty, if (s.size : Int) < widthZ k then 0 else widthZ k, if (s.size : Int) < widthZ k then 2 else 0)
  else if k = 5 then ((numZ s).1, .empty, (numZ s).2.1, (numZ s).2.2)
  else if k = 6 then (0, (txtZ s).1, (txtZ s).2.1, (txtZ s).2.2)
  else (0, .empty, 0, 6)
theorem numL_bd : ∀ (l : List Int) (i : Nat) (x : Int), inB l → i ≤ 9 → 0 ≤ x → x < 128 ^ i → ((numL i x l).2.2 = 0 ∨ (numL i x l).2.2 = 2 ∨ (numL i x l).2.2 = 3) ∧ ((numL i x l).2.2 ≠ 0 → (numL i x l).1 = 0 ∧ (numL i x l).2.1 = 0) ∧
    ((numL i x l).2.2 = 0 → 0 ≤ (numL i x l).1 ∧ (numL i x l).1 ≤ 18446744073709551615 ∧ (i : Int) < (numL i x l).2.1 ∧ (numL i x l).2.1 ≤ i + l.length ∧ (numL i x l).2.1 ≤ 10)
  | [], i, x, hb, h9, h0, h1 => ⟨.inr (.inl rfl), fun _ => ⟨rfl, rfl⟩, fun e => by cases e⟩
  | c :: l, i, x, hb, h9, h0, h1 => by
    have hc := hb c (List.mem_cons_self ..)
    rw [numL]
    by_cases c1 : (i = 9 ∧ 1 < c) ∨ (0 < i ∧ c = 0)
    · rw [if_pos c1]; exact ⟨.inr (.inr rfl), fun _ => ⟨rfl, rfl⟩, fun e => by cases e⟩
    · rw [if_neg c1]
      by_cases c7 : c < 128
      · rw [if_pos c7]
        refine ⟨.inl rfl, fun e => absurd rfl e, fun _ => ?_⟩
        have hs := sh_bd hc.1 c7 h9 (fun _ => by omega)
        have hp : (128 : Int) ^ i ≤ 128 ^ 9 := ipow_le (by decide) h9
        have e9 : (128 : Int) ^ 9 = 9223372036854775808 := by decide
        refine ⟨(show 0 ≤ x + c * 128 ^ i by omega), (show x + c * 128 ^ i ≤ 18446744073709551615 by omega), (show (i : Int) < (i : Int) + 1 by omega), ?_, (show (i : Int) + 1 ≤ 10 by omega)⟩
        show (i : Int) + 1 ≤ i + ((l.length + 1 : Nat) : Int)
        omega
      · rw [if_neg c7]
        by_cases i9 : i = 9
        · exfalso; omega
        have hn := x_next h0 h1 (show 0 ≤ c - 128 by omega) (by omega)
        have ih := numL_bd l (i + 1) _ (fun y hy => hb y (List.mem_cons_of_mem _ hy)) (by omega) hn.1 hn.2
        refine ⟨ih.1, ih.2.1, fun e => ?_⟩
        obtain ⟨a1, a2, a3, a4, a5⟩ := ih.2.2 e
        refine ⟨a1, a2, by omega, ?_, a5⟩
        rw [List.length_cons]; omega
theorem numZ_bd (s : ByteArray) : ((numZ s).2.2 = 0 ∨ (numZ s).2.2 = 2 ∨ (numZ s).2.2 = 3) ∧ ((numZ s).2.2 ≠ 0 → (numZ s).1 = 0 ∧ (numZ s).2.1 = 0) ∧
    ((numZ s).2.2 = 0 → 0 ≤ (numZ s).1 ∧ (numZ s).1 ≤ 18446744073709551615 ∧ 0 < (numZ s).2.1 ∧ (numZ s).2.1 ≤ s.size ∧ (numZ s).2.1 ≤ 10) := by
  have := numL_bd (ints s) 0 0 (inB_ints s) (by omega) (Int.le_refl _) (by decide)
  rw [ints_len] at this
  unfold numZ
  refine ⟨this.1, this.2.1, fun e => ?_⟩
  obtain ⟨a1, a2, a3, a4, a5⟩ := this.2.2 e
  exact ⟨a1, a2, by omega, by omega, a5⟩
theorem fixV_bd (s : ByteArray) (w : Int) (h0 : 0 ≤ w) (h8 : w ≤ 8) : 0 ≤ fixV s w ∧ fixV s w ≤ 18446744073709551615 := by
  unfold fixV
  split
  · omega
  · have := bigZ_bd ((ints s).take w.toNat) 0 (inB_take (inB_ints s) _) (Int.le_refl _)
    have hp := pow256_le (i := ((ints s).take w.toNat).length) (by rw [List.length_take]; omega)
    omega
theorem txtZ_ok {s : ByteArray} (h : (txtZ s).2.2 = 0) : (numZ s).2.2 = 0 ∧ (numZ s).1 ≤ 65535 ∧ 0 ≤ (numZ s).1 ∧ 0 < (numZ s).2.1 ∧ (numZ s).2.1 + (numZ s).1 ≤ s.size ∧ txtZ s = (s.extract (numZ s).2.1.toNat ((numZ s).2.1 + (numZ s).1).toNat, (numZ s).2.1 + (numZ s).1, 0) := by
  have hb := numZ_bd s
  unfold txtZ at h ⊢
  split at h
  · rename_i q; exact absurd h q
  · rename_i q1
    split at h
    · cases h
    · rename_i q2
      split at h
      · cases h
      · rename_i q3
        have e0 : (numZ s).2.2 = 0 := by omega
        obtain ⟨a1, a2, a3, a4, a5⟩ := hb.2.2 e0
        rw [if_neg q1, if_neg q2, if_neg q3]
        exact ⟨e0, by omega, a1, a3, by omega, rfl⟩
theorem oneZ_bd (s : ByteArray) (k : Int) : (oneZ s k).2.2.2 = 0 → 0 ≤ (oneZ s k).2.2.1 ∧ (oneZ s k).2.2.1 ≤ s.size := by
  intro h
  have hw := widthZ_bd k
  have hn := numZ_bd s
  unfold oneZ at h ⊢
  split at h
  · rename_i q
    rw [if_pos q]
    simp only at h ⊢
    split at h
    · omega
    · rename_i q2; rw [if_neg q2]; omega
  · rename_i q
    rw [if_neg q]
    split at h
    · rename_i q2
      rw [if_pos q2]
      obtain ⟨a1, a2, a3, a4, a5⟩ := hn.2.2 h
      exact ⟨by show 0 ≤ (numZ s).2.1; omega, a4⟩
    · rename_i q2
      rw [if_neg q2]
      split at h
      · rename_i q3
        rw [if_pos q3]
        obtain ⟨b1, b2, b3, b4, b5, b6⟩ := txtZ_ok h
        rw [b6]
        simp only
        omega
      · cases h
theorem oneZ_n (s : ByteArray) (k : Int) : 0 ≤ (oneZ s k).1 ∧ (oneZ s k).1 ≤ 18446744073709551615 := by
  have hw := widthZ_bd k
  have hn := numZ_bd s
  have hf := fixV_bd s (widthZ k) hw.1 hw.2
  unfold oneZ
  split
  · exact hf
  · split
    · simp only
      by_cases e : (numZ s).2.2 = 0
      · have := hn.2.2 e; omega
      · have := hn.2.1 e; omega
    · split <;> simp only <;> omega
/-- What stands from a place on. -/
def fromZ (s : ByteArray) (a : Nat) : ByteArray := s.extract a s.size
theorem fromZ_size {s : ByteArray} {a : Nat} (h : a ≤ s.size) : (fromZ s a).size = s.size - a := by
  unfold fromZ; rw [ByteArray.size_extract]; omega
theorem fromZ_ints (s : ByteArray) (a : Nat) : ints (fromZ s a) = (ints s).drop a := by
  unfold ints fromZ
  rw [ext_toList, List.take_of_length_le (by simp), List.map_drop]
/-- Where the fields of the kinds K stand, and what is wrong with the first bad one. -/
def atN (s : ByteArray) (K : Nat → Int) : Nat → Nat
  | 0 => 0
  | i + 1 => atN s K i + (oneZ (fromZ s (atN s K i)) (K i)).2.2.1.toNat
def errT (s : ByteArray) (K : Nat → Int) : Nat → Int
  | 0 => 0
  | i + 1 => if errT s K i = 0 then (oneZ (fromZ s (atN s K i)) (K i)).2.2.2 else errT s K i
def fldT (s : ByteArray) (K : Nat → Int) (i : Nat) : Fl := ⟨K i, (oneZ (fromZ s (atN s K i)) (K i)).1, (oneZ (fromZ s (atN s K i)) (K i)).2.1⟩
theorem errT_low {s : ByteArray} {K : Nat → Int} : ∀ {n : Nat}, errT s K n = 0 → ∀ i, i < n → errT s K i = 0 ∧ (oneZ (fromZ s (atN s K i)) (K i)).2.2.2 = 0
  | 0, h, i, hi => absurd hi (Nat.not_lt_zero i)
  | n + 1, h, i, hi => by
    by_cases e : errT s K n = 0
    · rw [errT, if_pos e] at h
      by_cases q : i = n
      · subst q; exact ⟨e, h⟩
      · exact errT_low e i (by omega)
    · rw [errT, if_neg e] at h; exact absurd h e
theorem errT_at {s : ByteArray} {K : Nat → Int} : ∀ {n : Nat}, errT s K n ≠ 0 → ∃ p, p < n ∧ errT s K p = 0 ∧ (oneZ (fromZ s (atN s K p)) (K p)).2.2.2 = errT s K n
  | 0, h => absurd rfl h
  | n + 1, h => by
    by_cases e : errT s K n = 0
    · exact ⟨n, by omega, e, by rw [errT, if_pos e]⟩
    · obtain ⟨p, h1, h2, h3⟩ := errT_at e
      exact ⟨p, by omega, h2, by rw [errT, if_neg e]; exact h3⟩
theorem atN_le {s : ByteArray} {K : Nat → Int} : ∀ {n : Nat}, errT s K n = 0 → atN s K n ≤ s.size
  | 0, _ => Nat.zero_le _
  | n + 1, h => by
    obtain ⟨h1, h2⟩ := errT_low h n (Nat.lt_succ_self n)
    have ih := atN_le h1
    have := oneZ_bd _ _ h2
    rw [fromZ_size ih] at this
    rw [atN]
    omega
abbrev gK (K : Nat → Int) : Nat → List At := fun j => [.val (.int .i64 (K j))]
end Go.Proofs.Ytecgigeahkijaaa
