/- Twins and rows in order: what comes. No condition. -/
import Derived.Test.YtakpokccjgoapaaTxQ
namespace Go.Proofs.Ytakpokccjgoapaa
set_option linter.unusedVariables false
set_option linter.unusedSimpArgs false

theorem It.pos_low (L : It) (r : Int) : ∀ k j, j < L.pos r k → ¬ r < L.r j
  | 0, j, h => absurd h (Nat.not_lt_zero j)
  | k + 1, j, h => by
    have hle := It.pos_le L r k
    by_cases a : L.pos r k < k
    · rw [It.pos_put a] at h; exact It.pos_low L r k j h
    · by_cases b : r < L.r k
      · rw [It.pos_hit a b] at h; exact It.pos_low L r k j (by omega)
      · rw [It.pos_miss a b] at h
        by_cases q : j = k
        · subst q; exact b
        · exact It.pos_low L r k j (by omega)
theorem It.pos_up (L : It) (r : Int) : ∀ k, L.pos r k < k → r < L.r (L.pos r k)
  | 0, h => absurd h (Nat.not_lt_zero _)
  | k + 1, h => by
    have hle := It.pos_le L r k
    by_cases a : L.pos r k < k
    · rw [It.pos_put a]; exact It.pos_up L r k a
    · by_cases b : r < L.r k
      · rw [It.pos_hit a b]; exact b
      · rw [It.pos_miss a b] at h; omega

section
variable {α : Type}
theorem up_start {n : Nat} {T : Tw α} (hp : HP n T.key) (r c : Int) (x : α) (hc : cOk (n + 1) (T.put n r c x)) : Up (n + 1) ((T.put n r c x).up0 n).key (n / 2) ∧ Pm (n + 1) (T.put n r c x) ((T.put n r c x).up0 n) := by
  generalize hT1 : T.put n r c x = T1 at *
  have kj : ∀ j, j ≠ n → T1.key j = T.key j := fun j hj => by subst hT1; rw [key_put, if_neg hj]
  unfold Tw.up0
  by_cases o : n % 2 = 1
  · rw [if_pos o]
    by_cases a : T1.ah n (n - 1) = true
    · rw [if_pos a]
      have a' := (ah_iff hc (by omega) (by omega)).1 a
      refine ⟨⟨fun k hk => ?_, n - 1, by omega, by omega, fun i i2 hi ine => ?_, fun z i i2 hi hpi => by unfold pi at hpi; omega⟩, Pm.swap T1 (by omega) (by omega)⟩
      · by_cases w : 2 * k + 1 = n
        · rw [key_swap, if_pos (by omega), key_swap, if_neg (by omega), if_pos (by omega)]; omega
        · rw [key_swap, if_neg (by omega), if_neg (by omega), key_swap, if_neg (by omega), if_neg (by omega), kj _ (by omega), kj _ (by omega)]
          exact hp.a k (by omega)
      · have e1 : (T1.swap n (n - 1)).key (2 * pi i) = T.key (2 * pi i) := by
          rw [key_swap, if_neg (by unfold pi; omega), if_neg (by unfold pi; omega), kj _ (by unfold pi; omega)]
        have e2 : (T1.swap n (n - 1)).key (2 * pi i + 1) = T.key (2 * pi i + 1) := by
          rw [key_swap, if_neg (by unfold pi; omega), if_neg (by unfold pi; omega), kj _ (by unfold pi; omega)]
        rw [e1, e2]
        by_cases w : i = n
        · subst w
          rw [key_swap, if_neg (by omega), if_pos rfl, kj _ (by omega)]
          have := hp.b (i - 1) (by omega) (by omega)
          rw [show pi (i - 1) = pi i by unfold pi; omega] at this
          exact this
        · rw [key_swap, if_neg ine, if_neg w, kj _ w]
          exact hp.b i i2 (by omega)
    · rw [if_neg a]
      have a' := ah_not hc (by omega) (by omega) a
      refine ⟨⟨fun k hk => ?_, n, rfl, by omega, fun i i2 hi ine => ?_, fun z i i2 hi hpi => by unfold pi at hpi; omega⟩, Pm.refl _ _⟩
      · by_cases w : 2 * k + 1 = n
        · rw [show 2 * k = n - 1 by omega, show n - 1 + 1 = n by omega]; exact a'
        · rw [kj _ (by omega), kj _ (by omega)]; exact hp.a k (by omega)
      · rw [kj _ (by unfold pi; omega), kj _ ine, kj _ (by unfold pi; omega)]
        exact hp.b i i2 (by omega)
  · rw [if_neg o]
    refine ⟨⟨fun k hk => ?_, n, rfl, by omega, fun i i2 hi ine => ?_, fun z i i2 hi hpi => by unfold pi at hpi; omega⟩, Pm.refl _ _⟩
    · rw [kj _ (by omega), kj _ (by omega)]; exact hp.a k (by omega)
    · rw [kj _ (by unfold pi; omega), kj _ ine, kj _ (by unfold pi; omega)]
      exact hp.b i i2 (by omega)
end
theorem Sim.add {n : Nat} {T : Tw Int} {c : Int} {L : It} (h : Sim n T c L) (r x : Int) (hc0 : 0 ≤ c) (hb : c + 1 < 18446744073709551616) : Sim (n + 1) ((T.put n r c x).up (n + 1) n) (c + 1) (L.ins (L.pos r n) r x) := by
  obtain ⟨S, ⟨f, g, h1, h2⟩, hs, hl⟩ := h.s
  have cb1 : ∀ i, i < n + 1 → 0 ≤ (T.put n r c x).c i ∧ (T.put n r c x).c i < c + 1 := fun i hi => by
    unfold Tw.put
    simp only
    split
    · omega
    · have := h.cb i (by omega); omega
  have hc1 : Go.Proofs.Ytakpokccjgoapaa.cOk (n + 1) (T.put n r c x) := fun i hi => by have := cb1 i hi; omega
  obtain ⟨u1, u2⟩ := up_start h.hp r c x hc1
  obtain ⟨q1, q2⟩ := upL_law (n / 2) (n / 2) _ (u2.cOk hc1) u1 (by omega) (Nat.le_refl _)
  have q2 := u2.trans q2
  have q2' := q2
  obtain ⟨f', g', k1, k2⟩ := q2'
  have hle := It.pos_le L r n
  have hlow := It.pos_low L r n
  have hup := It.pos_up L r n
  generalize hP : L.pos r n = p at *
  have scb : ∀ i, i < n → 0 ≤ S.c i ∧ S.c i < c := fun i hi => by rw [(h2 i hi).2.1]; exact h.cb _ (h1 i hi).1
  have srt : ∀ i j, i < j → j < n → S.r i ≤ S.r j := fun i j hij hj => by
    have := hs i j hij hj
    have := scb i (by omega)
    have := scb j hj
    have := h.big
    unfold Tw.key at *
    omega
  refine ⟨q1, fun i hi => ?_, hb, ⟨fun j => if j < p then S.r j else if j = p then r else S.r (j - 1), fun j => if j < p then S.c j else if j = p then c else S.c (j - 1), fun j => if j < p then S.x j else if j = p then x else S.x (j - 1)⟩, q2.symm.trans ?_, ?_, ?_⟩
  · show 0 ≤ ((T.put n r c x).up (n + 1) n).c i ∧ ((T.put n r c x).up (n + 1) n).c i < c + 1
    unfold Tw.up
    rw [(k2 i hi).2.1]; exact cb1 _ (k1 i hi).1
  · refine ⟨fun j => if j < p then f j else if j = p then n else f (j - 1), fun i => if i = n then p else if g i < p then g i else g i + 1, fun j hj => ?_, fun j hj => ?_⟩
    · refine ⟨?_, ?_, ?_, ?_⟩
      · simp only; split
        · have := (h1 j (by omega)).1; omega
        · split
          · omega
          · have := (h1 (j - 1) (by omega)).1; omega
      · simp only; split
        · omega
        · have := (h1 j (by omega)).2.1
          split <;> omega
      · simp only
        by_cases a : j < p
        · obtain ⟨b1, b2, b3, b4⟩ := h1 j (by omega)
          rw [if_pos a, if_neg (by omega), b3, if_pos a]
        · by_cases b : j = p
          · rw [if_neg a, if_pos b, if_pos rfl]; exact b.symm
          · obtain ⟨b1, b2, b3, b4⟩ := h1 (j - 1) (by omega)
            rw [if_neg a, if_neg b, if_neg (by omega), b3, if_neg (by omega)]; omega
      · simp only
        by_cases a : j = n
        · rw [if_pos a, if_neg (Nat.lt_irrefl p), if_pos rfl]; exact a.symm
        · obtain ⟨b1, b2, b3, b4⟩ := h1 j (by omega)
          rw [if_neg a]
          by_cases b : g j < p
          · rw [if_pos b, if_pos b, b4]
          · rw [if_neg b, if_neg (by omega), if_neg (by omega), Nat.add_sub_cancel, b4]
    · have pt : ∀ i, i < n → (T.put n r c x).r i = T.r i ∧ (T.put n r c x).c i = T.c i ∧ (T.put n r c x).x i = T.x i := fun i hi => by
        unfold Tw.put
        simp only [if_neg (show ¬ i = n by omega)]
        exact ⟨trivial, trivial, trivial⟩
      simp only
      by_cases a : j < p
      · obtain ⟨b1, b2, b3⟩ := pt _ (h1 j (by omega)).1
        rw [if_pos a, if_pos a, if_pos a, if_pos a, b1, b2, b3]; exact h2 j (by omega)
      · by_cases b : j = p
        · rw [if_neg a, if_neg a, if_neg a, if_neg a, if_pos b, if_pos b, if_pos b, if_pos b]
          unfold Tw.put
          simp
        · obtain ⟨b1, b2, b3⟩ := pt _ (h1 (j - 1) (by omega)).1
          rw [if_neg a, if_neg a, if_neg a, if_neg a, if_neg b, if_neg b, if_neg b, if_neg b, b1, b2, b3]; exact h2 (j - 1) (by omega)
  · intro i j hij hj
    unfold Tw.key
    simp only
    by_cases a : j < p
    · rw [if_pos (by omega), if_pos (by omega), if_pos a, if_pos a]; exact hs i j hij (by omega)
    · by_cases b : j = p
      · have e1 := hlow i (by omega)
        have e2 := (hl i (by omega)).1
        have e3 := scb i (by omega)
        rw [if_pos (by omega), if_pos (by omega), if_neg a, if_pos b, if_neg a, if_pos b]
        omega
      · rw [if_neg a, if_neg b, if_neg a, if_neg b]
        by_cases d : i < p
        · rw [if_pos d, if_pos d]; exact hs i (j - 1) (by omega) (by omega)
        · by_cases d2 : i = p
          · rw [if_neg d, if_pos d2, if_neg d, if_pos d2]
            have e1 := hup (by omega)
            have e2 := (hl p (by omega)).1
            have e3 : S.r p ≤ S.r (j - 1) := by
              by_cases z : p = j - 1
              · rw [← z]; exact Int.le_refl _
              · exact srt p (j - 1) (by omega) (by omega)
            have e4 := scb (j - 1) (by omega)
            have := h.big
            omega
          · rw [if_neg d, if_neg d2, if_neg d, if_neg d2]; exact hs (i - 1) (j - 1) (by omega) (by omega)
  · intro i hi
    unfold It.ins
    simp only
    by_cases a : i < p
    · rw [if_pos a, if_pos a, if_pos a, if_pos a]; exact hl i (by omega)
    · by_cases b : i = p
      · rw [if_neg a, if_neg a, if_neg a, if_neg a, if_pos b, if_pos b, if_pos b, if_pos b]; exact ⟨rfl, rfl⟩
      · rw [if_neg a, if_neg a, if_neg a, if_neg a, if_neg b, if_neg b, if_neg b, if_neg b]; exact hl (i - 1) (by omega)
theorem Sim.push {n : Nat} {T : Tw Int} {c : Int} {L : It} (h : Sim n T c L) (r x m : Int) (hq : (n : Int) < m) (hc0 : 0 ≤ c) (hb : c + 1 < 18446744073709551616) : Sim (pushN n m) (T.push n r c m x) (pushC n c m) (L.ins (L.pos r n) r x) := by
  unfold pushN pushC Tw.push
  rw [if_pos hq, if_pos hq, if_pos hq]
  exact h.add r x hc0 hb
theorem Sim.full {n : Nat} {T : Tw Int} {c : Int} {L : It} (h : Sim n T c L) (r x m : Int) (hq : ¬ (n : Int) < m) : Sim (pushN n m) (T.push n r c m x) (pushC n c m) L := by
  unfold pushN pushC Tw.push
  rw [if_neg hq, if_neg hq, if_neg hq]
  exact h
theorem Sim.sqz {n : Nat} {T : Tw Int} {c : Int} {L : It} (h : Sim n T c L) (r x m : Int) (hm : 1 ≤ m) (hnm : (n : Int) ≤ m) (hc0 : 0 ≤ c) (hb : c + 1 < 18446744073709551616) :
    sqX 0 T n r m x = rsqX L n r m x ∧ rsqN L n r m = sqN T n r m ∧ Sim (sqN T n r m) (T.sqz n r c m x) (sqC T n r c m) (rsqL L n r m x) := by
  obtain ⟨l1, l2, l3⟩ := h.last
  unfold sqX rsqX rsqN sqN Tw.sqz sqC rsqL
  by_cases q : (n : Int) < m
  · simp only [if_pos q]
    exact ⟨trivial, by unfold pushN; rw [if_pos q], h.push r x m q hc0 hb⟩
  · simp only [if_neg q]
    rw [l1]
    by_cases w : laR L n ≤ r
    · simp only [if_pos w]
      exact ⟨trivial, trivial, h⟩
    · simp only [if_neg w]
      have e : ((n - 1 : Nat) : Int) < m := by omega
      have := h.popH.push r x m e hc0 hb
      refine ⟨l2, by unfold pushN; rw [if_pos e], this⟩
end Go.Proofs.Ytakpokccjgoapaa
