/- Twins and rows in order: what both say. No condition. -/
import Derived.Test.YtakpokccjgoapaaTxO
import Derived.Test.YtakpokccjgoapaaTxJ
namespace Go.Proofs.Ytakpokccjgoapaa
set_option linter.unusedVariables false
set_option linter.unusedSimpArgs false

section
variable {α : Type}
theorem Pm.symm {n : Nat} {T T' : Tw α} (h : Pm n T T') : Pm n T' T := by
  obtain ⟨f, g, h1, h2⟩ := h
  refine ⟨g, f, fun j hj => ?_, fun j hj => ?_⟩
  · obtain ⟨a1, a2, a3, a4⟩ := h1 j hj
    exact ⟨a2, a1, a4, a3⟩
  · obtain ⟨a1, a2, a3, a4⟩ := h1 j hj
    obtain ⟨b1, b2, b3⟩ := h2 _ a2
    rw [a4] at b1 b2 b3
    exact ⟨b1.symm, b2.symm, b3.symm⟩
def Sorted (n : Nat) (S : Tw α) : Prop := ∀ i j, i < j → j < n → S.key i < S.key j
theorem key_eq {n : Nat} {T T' : Tw α} {f : Nat → Nat} (h2 : ∀ j, j < n → T'.r j = T.r (f j) ∧ T'.c j = T.c (f j) ∧ T'.x j = T.x (f j)) {j : Nat} (hj : j < n) : T'.key j = T.key (f j) := by
  unfold Tw.key
  rw [(h2 j hj).1, (h2 j hj).2.1]
theorem first_at {n : Nat} {T S : Tw α} (hp : HP n T.key) (hs : Sorted n S) (hn : 0 < n) {f g : Nat → Nat} (h1 : ∀ j, j < n → f j < n ∧ g j < n ∧ g (f j) = j ∧ f (g j) = j) (h2 : ∀ j, j < n → S.r j = T.r (f j) ∧ S.c j = T.c (f j) ∧ S.x j = T.x (f j)) : f 0 = 0 ∧ g 0 = 0 := by
  obtain ⟨a1, a2, a3, a4⟩ := h1 0 hn
  have k0 := key_eq h2 hn
  have k1 := key_eq h2 a2
  rw [a4] at k1
  have m := hp.min _ a1
  have e : g 0 = 0 := by
    by_cases z : g 0 = 0
    · exact z
    · have := hs 0 (g 0) (by omega) a2
      omega
  exact ⟨by rw [← e, a4, e], e⟩
theorem last_at {n : Nat} {T S : Tw α} (hp : HP n T.key) (hs : Sorted n S) (hn : 2 ≤ n) {f g : Nat → Nat} (h1 : ∀ j, j < n → f j < n ∧ g j < n ∧ g (f j) = j ∧ f (g j) = j) (h2 : ∀ j, j < n → S.r j = T.r (f j) ∧ S.c j = T.c (f j) ∧ S.x j = T.x (f j)) : f (n - 1) = 1 ∧ g 1 = n - 1 := by
  obtain ⟨a1, a2, a3, a4⟩ := h1 1 (by omega)
  obtain ⟨b1, b2, b3, b4⟩ := h1 (n - 1) (by omega)
  have k0 := key_eq h2 (show n - 1 < n by omega)
  have k1 := key_eq h2 a2
  rw [a4] at k1
  have m := hp.max hn _ b1
  have e : g 1 = n - 1 := by
    by_cases z : g 1 = n - 1
    · exact z
    · have := hs (g 1) (n - 1) (by omega) (by omega)
      omega
  exact ⟨by rw [← e, a4], e⟩
end

/-- A twin and a row in order have the same items. -/
structure Sim (n : Nat) (T : Tw Int) (c : Int) (L : It) : Prop where
  hp : HP n T.key
  cb : ∀ i, i < n → 0 ≤ T.c i ∧ T.c i < c
  big : c < 18446744073709551616
  s : ∃ S : Tw Int, Pm n T S ∧ Sorted n S ∧ ∀ i, i < n → S.r i = L.r i ∧ S.x i = L.x i
theorem Sim.cOk {n : Nat} {T : Tw Int} {c : Int} {L : It} (h : Sim n T c L) : cOk n T := fun i hi => by
  have := h.cb i hi
  have := h.big
  omega
theorem Sim.first {n : Nat} {T : Tw Int} {c : Int} {L : It} (h : Sim n T c L) : atR T n 0 = fiR L n ∧ atX 0 T n 0 = fiX L n ∧ isP n 0 = decide (0 < n) := by
  by_cases hn : 0 < n
  · obtain ⟨S, ⟨f, g, h1, h2⟩, hs, hl⟩ := h.s
    obtain ⟨e1, e2⟩ := first_at h.hp hs hn h1 h2
    have := h2 0 hn
    rw [e1] at this
    rw [atR_0 T hn, atX_0 0 T hn, isP_0 hn, decide_eq_true hn]
    unfold fiR fiX
    rw [if_pos hn, if_pos hn, ← this.1, ← this.2.2]
    exact ⟨(hl 0 hn).1, (hl 0 hn).2, rfl⟩
  · obtain rfl : n = 0 := by omega
    exact ⟨rfl, rfl, rfl⟩
theorem Sim.last {n : Nat} {T : Tw Int} {c : Int} {L : It} (h : Sim n T c L) : atR T n (mxI n) = laR L n ∧ atX 0 T n (mxI n) = laX L n ∧ isP n (mxI n) = decide (0 < n) := by
  rcases (by omega : n = 0 ∨ n = 1 ∨ 2 ≤ n) with rfl | rfl | hn
  · exact ⟨rfl, rfl, rfl⟩
  · exact h.first
  · obtain ⟨S, ⟨f, g, h1, h2⟩, hs, hl⟩ := h.s
    obtain ⟨e1, e2⟩ := last_at h.hp hs hn h1 h2
    have := h2 (n - 1) (by omega)
    rw [e1] at this
    rw [mxI_1 (by omega), atR_1 T (by omega), atX_1 0 T (by omega), isP_1 (by omega), decide_eq_true (by omega)]
    unfold laR laX
    rw [if_pos (by omega), if_pos (by omega), ← this.1, ← this.2.2]
    exact ⟨(hl (n - 1) (by omega)).1, (hl (n - 1) (by omega)).2, rfl⟩
theorem Sim.zero (T : Tw Int) (c : Int) (L : It) (hb : c < 18446744073709551616) : Sim 0 T c L :=
  ⟨⟨fun p hp => by omega, fun i _ hi => by omega⟩, fun i hi => by omega, hb, T, Pm.refl 0 T, fun i j _ hj => by omega, fun i hi => by omega⟩
theorem Sim.popL {n : Nat} {T : Tw Int} {c : Int} {L : It} (h : Sim n T c L) : Sim (n - 1) (T.popL n) c L.rest := by
  by_cases hn : 1 < n
  · unfold Tw.popL
    rw [if_pos hn]
    obtain ⟨S, ⟨f, g, h1, h2⟩, hs, hl⟩ := h.s
    obtain ⟨e1, e2⟩ := first_at h.hp hs (by omega) h1 h2
    generalize hT1 : T.put 0 (T.r (n - 1)) (T.c (n - 1)) (T.x (n - 1)) = T1
    have t0 : T1.r 0 = T.r (n - 1) ∧ T1.c 0 = T.c (n - 1) ∧ T1.x 0 = T.x (n - 1) := by subst hT1; exact ⟨rfl, rfl, rfl⟩
    have tj : ∀ j, j ≠ 0 → T1.r j = T.r j ∧ T1.c j = T.c j ∧ T1.x j = T.x j := fun j hj => by subst hT1; unfold Tw.put; simp [hj]
    have kj : ∀ j, j ≠ 0 → T1.key j = T.key j := fun j hj => by unfold Tw.key; rw [(tj j hj).1, (tj j hj).2.1]
    have cb1 : ∀ i, i < n - 1 → 0 ≤ T1.c i ∧ T1.c i < c := fun i hi => by
      by_cases z : i = 0
      · subst z; rw [t0.2.1]; exact h.cb _ (by omega)
      · rw [(tj i z).2.1]; exact h.cb _ (by omega)
    have hc1 : Go.Proofs.Ytakpokccjgoapaa.cOk (n - 1) T1 := fun i hi => by have := cb1 i hi; have := h.big; omega
    have lo : Lo (n - 1) T1.key 0 := by
      refine ⟨fun k hk hkn => ?_, fun i i2 hi hpi => ?_, fun i i2 hi => ?_, fun z => by omega⟩
      · rw [kj _ (by omega), kj _ (by omega)]; exact h.hp.a k (by omega)
      · rw [kj _ (by omega), kj _ (by omega)]; exact (h.hp.b i i2 (by omega)).1
      · rw [kj _ (by omega), kj _ (by omega)]; exact (h.hp.b i i2 (by omega)).2
    obtain ⟨q1, q2⟩ := slL_law (n - 1) 0 T1 hc1 lo (by omega) (by omega)
    have q2' := q2
    obtain ⟨f', g', k1, k2⟩ := q2'
    refine ⟨q1, fun i hi => ?_, h.big, ⟨fun j => S.r (j + 1), fun j => S.c (j + 1), fun j => S.x (j + 1)⟩, q2.symm.trans ?_, fun i j hij hj => hs (i + 1) (j + 1) (by omega) (by omega), fun i hi => hl (i + 1) (by omega)⟩
    · show 0 ≤ (Tw.slL (n - 1) (n - 1) 0 T1).c i ∧ (Tw.slL (n - 1) (n - 1) 0 T1).c i < c
      rw [(k2 i hi).2.1]; exact cb1 _ (k1 i hi).1
    · refine ⟨fun j => if f (j + 1) = n - 1 then 0 else f (j + 1), fun i => if i = 0 then g (n - 1) - 1 else g i - 1, fun j hj => ?_, fun j hj => ?_⟩
      · obtain ⟨a1, a2, a3, a4⟩ := h1 (j + 1) (by omega)
        obtain ⟨b1, b2, b3, b4⟩ := h1 j (by omega)
        obtain ⟨d1, d2, d3, d4⟩ := h1 (n - 1) (by omega)
        have z0 : f (j + 1) ≠ 0 := fun z => by rw [z, e2] at a3; omega
        have z1 : g (n - 1) ≠ 0 := fun z => by rw [z, e1] at d4; omega
        have z2 : j ≠ 0 → g j ≠ 0 := fun y z => by rw [z, e1] at b4; omega
        refine ⟨?_, ?_, ?_, ?_⟩
        · simp only; split <;> omega
        · simp only; split
          · omega
          · have := z2 (by assumption); omega
        · simp only
          by_cases y : f (j + 1) = n - 1
          · rw [if_pos y, if_pos rfl, ← y, a3]; omega
          · rw [if_neg y, if_neg z0, a3]; omega
        · simp only
          by_cases y : j = 0
          · subst y
            rw [if_pos rfl, show g (n - 1) - 1 + 1 = g (n - 1) by omega, d4, if_pos rfl]
          · have := z2 y
            rw [if_neg y, show g j - 1 + 1 = g j by omega, b4, if_neg (by omega)]
      · obtain ⟨a1, a2, a3, a4⟩ := h1 (j + 1) (by omega)
        have z0 : f (j + 1) ≠ 0 := fun z => by rw [z, e2] at a3; omega
        have o := h2 (j + 1) (by omega)
        simp only
        by_cases y : f (j + 1) = n - 1
        · rw [if_pos y, t0.1, t0.2.1, t0.2.2, ← y]; exact o
        · rw [if_neg y, (tj _ z0).1, (tj _ z0).2.1, (tj _ z0).2.2]; exact o
  · rw [show n - 1 = 0 by omega]
    exact Sim.zero _ _ _ h.big
theorem Sim.popH {n : Nat} {T : Tw Int} {c : Int} {L : It} (h : Sim n T c L) : Sim (n - 1) (T.popH n) c L := by
  by_cases hn : 1 < n
  · obtain ⟨S, ⟨f, g, h1, h2⟩, hs, hl⟩ := h.s
    obtain ⟨e1, e2⟩ := last_at h.hp hs (by omega) h1 h2
    generalize hT1 : T.put 1 (T.r (n - 1)) (T.c (n - 1)) (T.x (n - 1)) = T1
    have t0 : T1.r 1 = T.r (n - 1) ∧ T1.c 1 = T.c (n - 1) ∧ T1.x 1 = T.x (n - 1) := by subst hT1; exact ⟨rfl, rfl, rfl⟩
    have tj : ∀ j, j ≠ 1 → T1.r j = T.r j ∧ T1.c j = T.c j ∧ T1.x j = T.x j := fun j hj => by subst hT1; unfold Tw.put; simp [hj]
    have kj : ∀ j, j ≠ 1 → T1.key j = T.key j := fun j hj => by unfold Tw.key; rw [(tj j hj).1, (tj j hj).2.1]
    have cb1 : ∀ i, i < n - 1 → 0 ≤ T1.c i ∧ T1.c i < c := fun i hi => by
      by_cases z : i = 1
      · subst z; rw [t0.2.1]; exact h.cb _ (by omega)
      · rw [(tj i z).2.1]; exact h.cb _ (by omega)
    have hc1 : Go.Proofs.Ytakpokccjgoapaa.cOk (n - 1) T1 := fun i hi => by have := cb1 i hi; have := h.big; omega
    have pm : Pm (n - 1) T1 S := by
      refine ⟨fun j => if f j = n - 1 then 1 else f j, fun i => if i = 1 then g (n - 1) else g i, fun j hj => ?_, fun j hj => ?_⟩
      · obtain ⟨b1, b2, b3, b4⟩ := h1 j (by omega)
        obtain ⟨d1, d2, d3, d4⟩ := h1 (n - 1) (by omega)
        have z0 : f j ≠ 1 := fun z => by rw [z, e2] at b3; omega
        have z2 : j ≠ 1 → g j ≠ n - 1 := fun y z => by rw [z, e1] at b4; omega
        have z3 : n ≠ 2 → g (n - 1) ≠ n - 1 := fun y z => by rw [z, e1] at d4; omega
        refine ⟨?_, ?_, ?_, ?_⟩
        · simp only; split <;> omega
        · simp only; split
          · have := z3 (by omega); omega
          · have := z2 (by assumption); omega
        · simp only
          by_cases y : f j = n - 1
          · rw [if_pos y, if_pos rfl, ← y, b3]
          · rw [if_neg y, if_neg z0, b3]
        · simp only
          by_cases y : j = 1
          · subst y
            rw [if_pos rfl, d4, if_pos rfl]
          · rw [if_neg y, b4, if_neg (by omega)]
      · obtain ⟨b1, b2, b3, b4⟩ := h1 j (by omega)
        have z0 : f j ≠ 1 := fun z => by rw [z, e2] at b3; omega
        have o := h2 j (by omega)
        simp only
        by_cases y : f j = n - 1
        · rw [if_pos y, t0.1, t0.2.1, t0.2.2, ← y]; exact o
        · rw [if_neg y, (tj _ z0).1, (tj _ z0).2.1, (tj _ z0).2.2]; exact o
    unfold Tw.popH
    by_cases h3 : 2 < n
    · rw [if_pos h3, hT1]
      have hi : Hi (n - 1) T1.key 0 := by
        refine ⟨fun k hk hkn => ?_, fun i i2 hi => ?_, fun i i2 hi hpi => ?_, fun z => by omega⟩
        · rw [kj _ (by omega), kj _ (by omega)]; exact h.hp.a k (by omega)
        · rw [kj _ (by omega), kj _ (by omega)]; exact (h.hp.b i i2 (by omega)).1
        · rw [kj _ (by omega), kj _ (by omega)]; exact (h.hp.b i i2 (by omega)).2
      obtain ⟨q1, q2⟩ := shL_law (n - 1) 0 T1 hc1 hi (by omega) (by omega)
      have q2' := q2
      obtain ⟨f', g', k1, k2⟩ := q2'
      refine ⟨q1, fun i hi => ?_, h.big, S, q2.symm.trans pm, fun i j hij hj => hs i j hij (by omega), fun i hi => hl i (by omega)⟩
      show 0 ≤ (Tw.shL (n - 1) (n - 1) 0 T1).c i ∧ (Tw.shL (n - 1) (n - 1) 0 T1).c i < c
      rw [(k2 i hi).2.1]; exact cb1 _ (k1 i hi).1
    · rw [if_neg h3]
      obtain rfl : n = 2 := by omega
      refine ⟨h.hp.less (by omega), fun i hi => h.cb i (by omega), h.big, S, ?_, fun i j hij hj => hs i j hij (by omega), fun i hi => hl i (by omega)⟩
      refine Pm.trans ?_ pm
      exact ⟨id, id, fun j hj => ⟨hj, hj, rfl, rfl⟩, fun j hj => tj j (by omega)⟩
  · rw [show n - 1 = 0 by omega]
    exact Sim.zero _ _ _ h.big
end Go.Proofs.Ytakpokccjgoapaa
