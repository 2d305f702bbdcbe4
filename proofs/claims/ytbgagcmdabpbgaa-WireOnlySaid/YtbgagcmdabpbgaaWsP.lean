/- wire: what is taken is put as it stood: plain laws. No condition. -/
import Derived.Test.YtbgagcmdabpbgaaWsO
namespace Go.Proofs.Ytbgagcmdabpbgaa
set_option linter.unusedVariables false
set_option linter.unusedSimpArgs false
open Go.RowKit E

theorem hi_bigZ : ∀ (w : Nat) (l : List Int), inB l → l.length = w → hiL w (bigZ 0 l) = l
  | 0, l, _, h => by rw [List.length_eq_zero_iff] at h; subst h; rfl
  | w + 1, l, hb, h => by
    have hne : l ≠ [] := by intro e; subst e; cases h
    have e := List.dropLast_concat_getLast hne
    generalize l.dropLast = m at e
    generalize l.getLast hne = c at e
    subst e
    have hc := hb c (by simp)
    have hl : inB m := fun x hx => hb x (List.mem_append_left _ hx)
    have h0 := (bigZ_bd m 0 hl (Int.le_refl _)).1
    rw [bigZ_snoc]
    show hiL w ((bigZ 0 m * 256 + c) / 256) ++ [(bigZ 0 m * 256 + c) % 256] = _
    rw [show (bigZ 0 m * 256 + c) / 256 = bigZ 0 m by omega, show (bigZ 0 m * 256 + c) % 256 = c by omega, hi_bigZ w m hl (by simpa using h)]
theorem numL_take : ∀ (l : List Int) (i f : Nat) (x : Int), inB l → i + f = 9 → 0 ≤ x → x < 128 ^ i → (numL i x l).2.2 = 0 →
    ∃ v : Int, (numL i x l).1 = x + v * 128 ^ i ∧ 0 ≤ v ∧ v < 2 * 128 ^ f ∧ (0 < i → 0 < v) ∧ ((numL i x l).2.1 : Int) = i + (varL f v).length ∧ varL f v = l.take (varL f v).length
  | [], i, f, x, hb, hf, h0, h1, he => by cases he
  | c :: l, i, f, x, hb, hf, h0, h1, he => by
    have hc := hb c (List.mem_cons_self ..)
    rw [numL] at he ⊢
    by_cases c1 : (i = 9 ∧ 1 < c) ∨ (0 < i ∧ c = 0)
    · rw [if_pos c1] at he; cases he
    · rw [if_neg c1] at he ⊢
      have hp : (0 : Int) < 128 ^ f := Int.pow_pos (by omega)
      by_cases c7 : c < 128
      · rw [if_pos c7] at he ⊢
        have ev : varL f c = [c] := varL_end (by omega)
        refine ⟨c, rfl, hc.1, ?_, fun q => by omega, ?_, ?_⟩
        · cases f with
          | zero => simp; omega
          | succ f =>
            have hp : (0 : Int) < 128 ^ f := Int.pow_pos (by omega)
            rw [Int.pow_succ]; omega
        · rw [ev]; rfl
        · rw [ev]; rfl
      · rw [if_neg c7] at he ⊢
        cases f with
        | zero => exfalso; omega
        | succ f =>
          have hn := x_next h0 h1 (show 0 ≤ c - 128 by omega) (by omega)
          obtain ⟨v, v1, v2, v3, v4, v5, v6⟩ := numL_take l (i + 1) f _ (fun y hy => hb y (List.mem_cons_of_mem _ hy)) (by omega) hn.1 hn.2 he
          have hv := v4 (by omega)
          have eq1 : (v * 128 + (c - 128)) / 128 = v := by omega
          have eq2 : (v * 128 + (c - 128)) % 128 + 128 = c := by omega
          have ev : varL (f + 1) (v * 128 + (c - 128)) = c :: varL f v := by rw [varL_go (by omega), eq1, eq2]
          refine ⟨v * 128 + (c - 128), ?_, by omega, ?_, fun _ => by omega, ?_, ?_⟩
          · rw [v1, Int.pow_succ, Int.add_mul, Int.mul_assoc v 128, Int.mul_comm 128 (128 ^ i)]; omega
          · rw [Int.pow_succ]; omega
          · rw [v5, ev, List.length_cons]; omega
          · rw [ev, List.length_cons, List.take_succ_cons, ← v6]
theorem numZ_take {s : ByteArray} (h : (numZ s).2.2 = 0) : varL 9 (numZ s).1 = (ints s).take (numZ s).2.1.toNat ∧ ((varL 9 (numZ s).1).length : Int) = (numZ s).2.1 := by
  obtain ⟨v, v1, v2, v3, v4, v5, v6⟩ := numL_take (ints s) 0 9 0 (inB_ints s) rfl (Int.le_refl _) (by decide) h
  have e : (numZ s).1 = v := by show (numL 0 0 (ints s)).1 = v; rw [v1]; simp
  have e2 : (numZ s).2.1 = ((varL 9 v).length : Int) := by show (numL 0 0 (ints s)).2.1 = _; rw [v5]; simp
  rw [e, e2]
  exact ⟨by rw [Int.toNat_natCast]; exact v6, rfl⟩
theorem oneZ_take {s : ByteArray} {k : Int} (h : (oneZ s k).2.2.2 = 0) : ckZ ⟨k, (oneZ s k).1, (oneZ s k).2.1⟩ = 0 ∧ putL ⟨k, (oneZ s k).1, (oneZ s k).2.1⟩ = (ints s).take (oneZ s k).2.2.1.toNat ∧ ((putL ⟨k, (oneZ s k).1, (oneZ s k).2.1⟩).length : Int) = (oneZ s k).2.2.1 := by
  have hw := widthZ_bd k
  have hil := ints_len s
  have hwk : ∀ k : Int, widthZ k = 0 ↔ k < 1 ∨ 4 < k := fun k => by unfold widthZ; (repeat' split) <;> omega
  unfold oneZ at h ⊢
  by_cases q : 0 < widthZ k
  · have n5 : k ≠ 5 := fun e => by rw [e] at q; have : widthZ 5 = 0 := rfl; omega
    have n6 : k ≠ 6 := fun e => by rw [e] at q; have : widthZ 6 = 0 := rfl; omega
    rw [if_pos q] at h ⊢
    simp only at h ⊢
    by_cases l : (s.size : Int) < widthZ k
    · rw [if_pos l] at h; cases h
    · rw [if_neg l]
      have hlen : ((ints s).take (widthZ k).toNat).length = (widthZ k).toNat := by rw [List.length_take]; omega
      have hin := inB_take (inB_ints s) (widthZ k).toNat
      have ef : fixV s (widthZ k) = bigZ 0 ((ints s).take (widthZ k).toNat) := by unfold fixV; rw [if_neg l]
      have ep : putL ⟨k, fixV s (widthZ k), .empty⟩ = (ints s).take (widthZ k).toNat := by
        unfold putL
        rw [if_neg n5, if_neg n6, ef]
        exact hi_bigZ _ _ hin hlen
      refine ⟨?_, ep, by rw [ep, hlen]; omega⟩
      have hbd := bigZ_bd _ 0 hin (Int.le_refl _)
      rw [hlen] at hbd
      unfold ckZ
      simp only
      rw [if_neg (by omega), if_neg (by rw [show ByteArray.empty.size = 0 from rfl]; omega), if_neg, if_neg (by rw [show ByteArray.empty.size = 0 from rfl]; omega)]
      rintro ⟨_, g⟩
      apply g
      rw [ef, Int.natCast_pow, show ((2 : Nat) : Int) = 2 from rfl, pow_2_8]
      omega
  · rw [if_neg q] at h ⊢
    have hw0 : widthZ k = 0 := by omega
    by_cases q5 : k = 5
    · rw [if_pos q5] at h ⊢
      subst q5
      obtain ⟨n1, n2⟩ := numZ_take h
      have ep : putL ⟨5, (numZ s).1, .empty⟩ = varL 9 (numZ s).1 := rfl
      refine ⟨?_, by rw [ep]; exact n1, by rw [ep]; exact n2⟩
      unfold ckZ
      simp only
      rw [if_neg (by omega), if_neg (by rw [show ByteArray.empty.size = 0 from rfl]; omega), if_neg (by omega), if_neg (by rw [show ByteArray.empty.size = 0 from rfl]; omega)]
    · rw [if_neg q5] at h ⊢
      by_cases q6 : k = 6
      · rw [if_pos q6] at h ⊢
        subst q6
        simp only at h ⊢
        obtain ⟨b1, b2, b3, b4, b5, b6⟩ := txtZ_ok h
        obtain ⟨n1, n2⟩ := numZ_take b1
        rw [b6]
        simp only
        have hsz : (s.extract (numZ s).2.1.toNat ((numZ s).2.1 + (numZ s).1).toNat).size = (numZ s).1.toNat := by rw [ByteArray.size_extract]; omega
        have ep : putL ⟨6, 0, s.extract (numZ s).2.1.toNat ((numZ s).2.1 + (numZ s).1).toNat⟩ = (ints s).take ((numZ s).2.1 + (numZ s).1).toNat := by
          show varL 9 ((s.extract (numZ s).2.1.toNat ((numZ s).2.1 + (numZ s).1).toNat).size : Int) ++ ints (s.extract (numZ s).2.1.toNat ((numZ s).2.1 + (numZ s).1).toNat) = _
          rw [hsz, show (((numZ s).1.toNat : Nat) : Int) = (numZ s).1 by omega, n1, ints_extract]
          have ea : ((numZ s).2.1 + (numZ s).1).toNat = (numZ s).2.1.toNat + (((numZ s).2.1 + (numZ s).1).toNat - (numZ s).2.1.toNat) := by omega
          conv => rhs; rw [ea, List.take_add]
        refine ⟨?_, ep, by rw [ep, List.length_take, hil]; omega⟩
        unfold ckZ
        simp only
        rw [if_neg (by decide), if_neg (by simp), if_neg (by rw [hw0]; omega), if_neg (by rw [hsz]; omega)]
      · rw [if_neg q6] at h; cases h
/-- What is taken is put as it stood. -/
theorem take_only {s : ByteArray} {K : Nat → Int} : ∀ {n : Nat}, errT s K n = 0 → badZ (fldT s K) n = 0 ∧ putAll (fldT s K) n = (ints s).take (atN s K n)
  | 0, _ => ⟨rfl, rfl⟩
  | n + 1, h => by
    obtain ⟨h1, h2⟩ := errT_low h n (Nat.lt_succ_self n)
    obtain ⟨b1, b2⟩ := take_only h1
    obtain ⟨o1, o2, o3⟩ := oneZ_take h2
    have ha := atN_le h1
    refine ⟨by rw [badZ, if_pos b1]; exact o1, ?_⟩
    rw [putAll, atN, b2]
    show _ ++ putL ⟨K n, (oneZ (fromZ s (atN s K n)) (K n)).1, (oneZ (fromZ s (atN s K n)) (K n)).2.1⟩ = _
    rw [o2, fromZ_ints, List.take_add]
theorem fldT_wf (s : ByteArray) (K : Nat → Int) (i : Nat) : (fldT s K i).wf := by
  have := oneZ_n (fromZ s (atN s K i)) (K i)
  exact ⟨this.1, by show (oneZ (fromZ s (atN s K i)) (K i)).1 < _; omega⟩
end Go.Proofs.Ytbgagcmdabpbgaa
