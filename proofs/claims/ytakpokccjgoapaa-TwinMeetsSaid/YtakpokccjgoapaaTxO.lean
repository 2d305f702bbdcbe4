/- Twins: entries that rise or sink bring all in order, and none is lost. No condition. -/
import Derived.Test.YtakpokccjgoapaaTxL
namespace Go.Proofs.Ytakpokccjgoapaa
set_option linter.unusedVariables false
set_option linter.unusedSimpArgs false

section
variable {α : Type}
def Tw.key (T : Tw α) (i : Nat) : Int := T.r i * 18446744073709551616 + T.c i
def cOk (n : Nat) (T : Tw α) : Prop := ∀ i, i < n → 0 ≤ T.c i ∧ T.c i < 18446744073709551616
theorem ah_iff {n : Nat} {T : Tw α} (h : cOk n T) {i k : Nat} (hi : i < n) (hk : k < n) : T.ah i k = true ↔ T.key i < T.key k := by
  obtain ⟨a1, a2⟩ := h i hi
  obtain ⟨b1, b2⟩ := h k hk
  unfold Tw.ah aheadB Tw.key
  simp only [Bool.or_eq_true, Bool.and_eq_true, decide_eq_true_eq]
  omega
theorem ah_not {n : Nat} {T : Tw α} (h : cOk n T) {i k : Nat} (hi : i < n) (hk : k < n) (e : ¬ T.ah i k = true) : T.key k ≤ T.key i := by
  rw [ah_iff h hi hk] at e; omega
theorem key_swap (T : Tw α) (i k j : Nat) : (T.swap i k).key j = if j = k then T.key i else if j = i then T.key k else T.key j := by
  unfold Tw.swap Tw.key
  simp only
  split
  · rfl
  · split <;> rfl
theorem key_put (T : Tw α) (i j : Nat) (r c : Int) (x : α) : (T.put i r c x).key j = if j = i then r * 18446744073709551616 + c else T.key j := by
  unfold Tw.put Tw.key
  simp only
  split <;> rfl
/-- The same entries in another order. -/
def Pm (n : Nat) (T T' : Tw α) : Prop := ∃ f g : Nat → Nat, (∀ j, j < n → f j < n ∧ g j < n ∧ g (f j) = j ∧ f (g j) = j) ∧ ∀ j, j < n → T'.r j = T.r (f j) ∧ T'.c j = T.c (f j) ∧ T'.x j = T.x (f j)
theorem Pm.refl (n : Nat) (T : Tw α) : Pm n T T := ⟨id, id, fun j hj => ⟨hj, hj, rfl, rfl⟩, fun j hj => ⟨rfl, rfl, rfl⟩⟩
theorem Pm.trans {n : Nat} {T T' T'' : Tw α} (h : Pm n T T') (k : Pm n T' T'') : Pm n T T'' := by
  obtain ⟨f, g, h1, h2⟩ := h
  obtain ⟨f', g', k1, k2⟩ := k
  refine ⟨fun j => f (f' j), fun j => g' (g j), fun j hj => ?_, fun j hj => ?_⟩
  · obtain ⟨a1, a2, a3, a4⟩ := k1 j hj
    obtain ⟨b1, b2, b3, b4⟩ := h1 _ a1
    obtain ⟨c1, c2, c3, c4⟩ := h1 j hj
    obtain ⟨d1, d2, d3, d4⟩ := k1 _ c2
    refine ⟨b1, d2, ?_, ?_⟩
    · show g' (g (f (f' j))) = j
      rw [b3, a3]
    · show f (f' (g' (g j))) = j
      rw [d4, c4]
  · obtain ⟨a1, a2, a3, a4⟩ := k1 j hj
    obtain ⟨b1, b2, b3⟩ := k2 j hj
    obtain ⟨c1, c2, c3⟩ := h2 _ a1
    exact ⟨b1.trans c1, b2.trans c2, b3.trans c3⟩
theorem Pm.swap {n i k : Nat} (T : Tw α) (hi : i < n) (hk : k < n) : Pm n T (T.swap i k) := by
  have inv : ∀ j, (fun j => if j = k then i else if j = i then k else j) ((fun j => if j = k then i else if j = i then k else j) j) = j := by
    intro j
    simp only
    by_cases a : j = k
    · subst a
      by_cases b : i = j
      · subst b; simp
      · simp [b]
    · by_cases b : j = i
      · subst b; simp [a]
      · simp [a, b]
  refine ⟨fun j => if j = k then i else if j = i then k else j, fun j => if j = k then i else if j = i then k else j, fun j hj => ⟨?_, ?_, inv j, inv j⟩, fun j hj => ?_⟩
  · simp only; split
    · exact hi
    · split <;> omega
  · simp only; split
    · exact hi
    · split <;> omega
  · unfold Tw.swap
    simp only
    split
    · exact ⟨rfl, rfl, rfl⟩
    · split <;> exact ⟨rfl, rfl, rfl⟩
theorem Pm.cOk {n : Nat} {T T' : Tw α} (h : Pm n T T') (hc : cOk n T) : cOk n T' := by
  obtain ⟨f, g, h1, h2⟩ := h
  intro j hj
  rw [(h2 j hj).2.1]
  exact hc _ (h1 j hj).1

theorem upL_law {n : Nat} : ∀ (f p : Nat) (T : Tw α), cOk n T → Up n T.key p → 2 * p < n → p ≤ f → HP n (Tw.upL n f p T).key ∧ Pm n T (Tw.upL n f p T)
  | 0, p, T, hc, hu, hn, hf => by
    obtain rfl : p = 0 := by omega
    exact ⟨hu.top, Pm.refl n T⟩
  | f + 1, p, T, hc, hu, hn, hf => by
    unfold Tw.upL
    by_cases hp : p = 0
    · subst hp
      rw [if_pos rfl]
      exact ⟨hu.top, Pm.refl n T⟩
    · rw [if_neg hp]
      have l1 := hiP_lt (n := n) (p := p) (by omega)
      have l2 : hiP n ((p - 1) / 2) = 2 * ((p - 1) / 2) + 1 := by unfold hiP; rw [if_pos (by omega)]
      have hh := hiP_one hn
      by_cases a : T.ah (2 * p) (2 * ((p - 1) / 2)) = true
      · rw [if_pos a]
        have s := Pm.swap T (show 2 * p < n by omega) (show 2 * ((p - 1) / 2) < n by omega)
        have := upL_law f ((p - 1) / 2) _ (s.cOk hc) (hu.low (by omega) hn ((ah_iff hc (by omega) (by omega)).1 a)
          (by rw [key_swap, if_pos rfl]) (by rw [key_swap, if_neg (by omega), if_pos rfl]) (fun j h1 h2 => by rw [key_swap, if_neg h2, if_neg h1])) (by omega) (by omega)
        exact ⟨this.1, s.trans this.2⟩
      · rw [if_neg a]
        have a' := ah_not hc (by omega) (by omega) a
        by_cases b : T.ah (hiP n ((p - 1) / 2)) (hiP n p) = true
        · rw [if_pos b]
          have b' := (ah_iff hc (by omega) l1).1 b
          rw [l2] at b' ⊢
          have s := Pm.swap T l1 (show 2 * ((p - 1) / 2) + 1 < n by omega)
          have := upL_law f ((p - 1) / 2) _ (s.cOk hc) (hu.high (by omega) hn b'
            (by rw [key_swap, if_pos rfl]) (by rw [key_swap, if_neg (by omega), if_pos rfl]) (fun j h1 h2 => by rw [key_swap, if_neg h2, if_neg h1])) (by omega) (by omega)
          exact ⟨this.1, s.trans this.2⟩
        · rw [if_neg b]
          have b' := ah_not hc (by omega) l1 b
          rw [l2] at b'
          exact ⟨hu.stop (by omega) a' b', Pm.refl n T⟩

theorem in2_Lo {n p : Nat} {T : Tw α} (hc : cOk n T) (h : Lo n T.key p) (hn : 2 * p < n) : Lo n (T.in2 n p).key p ∧ (2 * p + 1 < n → (T.in2 n p).key (2 * p) ≤ (T.in2 n p).key (2 * p + 1)) ∧ Pm n T (T.in2 n p) := by
  unfold Tw.in2
  have l1 := hiP_lt (n := n) (p := p) (by omega)
  have hh := hiP_one hn
  by_cases a : T.ah (hiP n p) (2 * p) = true
  · rw [if_pos a]
    have a' := (ah_iff hc l1 hn).1 a
    rcases hh with ⟨h1, h2⟩ | ⟨h1, h2⟩
    · rw [h2] at a' ⊢
      have := h.pair h1 a' (K' := (T.swap (2 * p + 1) (2 * p)).key) (by rw [key_swap, if_pos rfl]) (by rw [key_swap, if_neg (by omega), if_pos rfl]) (fun j h1 h2 => by rw [key_swap, if_neg h1, if_neg h2])
      exact ⟨this.1, fun _ => this.2, Pm.swap T (by omega) hn⟩
    · rw [h2] at a'; omega
  · rw [if_neg a]
    have a' := ah_not hc l1 hn a
    refine ⟨h, fun q => ?_, Pm.refl n T⟩
    rcases hh with ⟨h1, h2⟩ | ⟨h1, h2⟩
    · rw [h2] at a'; exact a'
    · omega
theorem in2_Hi {n p : Nat} {T : Tw α} (hc : cOk n T) (h : Hi n T.key p) (hn : 2 * p < n) : Hi n (T.in2 n p).key p ∧ (2 * p + 1 < n → (T.in2 n p).key (2 * p) ≤ (T.in2 n p).key (2 * p + 1)) ∧ Pm n T (T.in2 n p) := by
  unfold Tw.in2
  have l1 := hiP_lt (n := n) (p := p) (by omega)
  have hh := hiP_one hn
  by_cases a : T.ah (hiP n p) (2 * p) = true
  · rw [if_pos a]
    have a' := (ah_iff hc l1 hn).1 a
    rcases hh with ⟨h1, h2⟩ | ⟨h1, h2⟩
    · rw [h2] at a' ⊢
      have := h.pair h1 a' (K' := (T.swap (2 * p + 1) (2 * p)).key) (by rw [key_swap, if_pos rfl]) (by rw [key_swap, if_neg (by omega), if_pos rfl]) (fun j h1 h2 => by rw [key_swap, if_neg h1, if_neg h2])
      exact ⟨this.1, fun _ => this.2, Pm.swap T (by omega) hn⟩
    · rw [h2] at a'; omega
  · rw [if_neg a]
    have a' := ah_not hc l1 hn a
    refine ⟨h, fun q => ?_, Pm.refl n T⟩
    rcases hh with ⟨h1, h2⟩ | ⟨h1, h2⟩
    · rw [h2] at a'; exact a'
    · omega

theorem slL_law {n : Nat} : ∀ (f p : Nat) (T : Tw α), cOk n T → Lo n T.key p → 2 * p < n → n ≤ p + f → HP n (Tw.slL n f p T).key ∧ Pm n T (Tw.slL n f p T)
  | 0, p, T, hc, hu, hn, hf => by omega
  | f + 1, p, T, hc, hu, hn, hf => by
    unfold Tw.slL
    obtain ⟨q1, q2, q3⟩ := in2_Lo hc hu hn
    have hc1 := q3.cOk hc
    generalize T.in2 n p = T1 at *
    by_cases g : ¬ 2 * (2 * p + 1) < n
    · rw [if_pos g]
      exact ⟨q1.stop q2 (fun i i2 hi hp => by unfold pi at hp; omega), q3⟩
    · rw [if_neg g]
      have g : 2 * (2 * p + 1) < n := by omega
      have hab := q2 (by omega)
      have hw : (T1.lw n p = 2 * p + 1 ∨ T1.lw n p = 2 * p + 2) ∧ 2 * T1.lw n p < n ∧ ∀ i, 2 ≤ i → i < n → pi i = p → T1.key (2 * T1.lw n p) ≤ T1.key i := by
        have e1 : ∀ i, 2 ≤ i → i < n → pi i = p → T1.key (2 * (2 * p + 1)) ≤ T1.key i ∨ (2 * (2 * p + 2) < n ∧ T1.key (2 * (2 * p + 2)) ≤ T1.key i) := by
          intro i i2 hi hp
          rcases (by unfold pi at hp; omega : i = 2 * (2 * p + 1) ∨ i = 2 * (2 * p + 1) + 1 ∨ i = 2 * (2 * p + 2) ∨ i = 2 * (2 * p + 2) + 1) with rfl | rfl | rfl | rfl
          · exact .inl (Int.le_refl _)
          · exact .inl (q1.a (2 * p + 1) (by omega) hi)
          · exact .inr ⟨hi, Int.le_refl _⟩
          · exact .inr ⟨by omega, q1.a (2 * p + 2) (by omega) hi⟩
        unfold Tw.lw
        by_cases z : 2 * (2 * p + 2) < n ∧ T1.ah (2 * (2 * p + 2)) (2 * (2 * p + 1)) = true
        · rw [if_pos z]
          have := (ah_iff hc1 z.1 g).1 z.2
          exact ⟨.inr rfl, z.1, fun i i2 hi hp => by rcases e1 i i2 hi hp with w | w <;> omega⟩
        · rw [if_neg z]
          refine ⟨.inl rfl, g, fun i i2 hi hp => ?_⟩
          rcases e1 i i2 hi hp with w | w
          · exact w
          · have := ah_not hc1 w.1 g (fun y => z ⟨w.1, y⟩)
            omega
      generalize T1.lw n p = u at *
      obtain ⟨w1, w2, w3⟩ := hw
      by_cases t : T1.ah (2 * u) (2 * p) = true
      · rw [if_pos t]
        have t' := (ah_iff hc1 w2 hn).1 t
        have s := Pm.swap T1 w2 hn
        have := slL_law f u _ (s.cOk hc1) (q1.down w1 w2 hab w3 t'
          (by rw [key_swap, if_pos rfl]) (by rw [key_swap, if_neg (by omega), if_pos rfl]) (fun j h1 h2 => by rw [key_swap, if_neg h1, if_neg h2])) w2 (by omega)
        exact ⟨this.1, (q3.trans s).trans this.2⟩
      · rw [if_neg t]
        have t' := ah_not hc1 w2 hn t
        exact ⟨q1.stop q2 (fun i i2 hi hp => by have := w3 i i2 hi hp; omega), q3⟩
theorem shL_law {n : Nat} : ∀ (f p : Nat) (T : Tw α), cOk n T → Hi n T.key p → 2 * p < n → n ≤ p + f → HP n (Tw.shL n f p T).key ∧ Pm n T (Tw.shL n f p T)
  | 0, p, T, hc, hu, hn, hf => by omega
  | f + 1, p, T, hc, hu, hn, hf => by
    unfold Tw.shL
    obtain ⟨q1, q2, q3⟩ := in2_Hi hc hu hn
    have hc1 := q3.cOk hc
    generalize T.in2 n p = T1 at *
    by_cases g : ¬ 2 * (2 * p + 1) < n
    · rw [if_pos g]
      exact ⟨q1.stop q2 (fun i i2 hi hp => by unfold pi at hp; omega), q3⟩
    · rw [if_neg g]
      have g : 2 * (2 * p + 1) < n := by omega
      have hab := q2 (by omega)
      have hb : hiP n p = 2 * p + 1 := by unfold hiP; rw [if_pos (by omega)]
      have hh1 := hiP_one g
      have hw : (T1.hw n p = 2 * p + 1 ∨ T1.hw n p = 2 * p + 2) ∧ 2 * T1.hw n p < n ∧ ∀ i, 2 ≤ i → i < n → pi i = p → T1.key i ≤ T1.key (hiP n (T1.hw n p)) := by
        have e1 : ∀ i, 2 ≤ i → i < n → pi i = p → T1.key i ≤ T1.key (hiP n (2 * p + 1)) ∨ (2 * (2 * p + 2) < n ∧ T1.key i ≤ T1.key (hiP n (2 * p + 2))) := by
          intro i i2 hi hp
          rcases (by unfold pi at hp; omega : i = 2 * (2 * p + 1) ∨ i = 2 * (2 * p + 1) + 1 ∨ i = 2 * (2 * p + 2) ∨ i = 2 * (2 * p + 2) + 1) with rfl | rfl | rfl | rfl
          · refine .inl ?_
            rcases hh1 with ⟨x1, x2⟩ | ⟨x1, x2⟩
            · rw [x2]; exact q1.a (2 * p + 1) (by omega) x1
            · rw [x2]; exact Int.le_refl _
          · refine .inl ?_
            rcases hh1 with ⟨x1, x2⟩ | ⟨x1, x2⟩
            · rw [x2]; exact Int.le_refl _
            · omega
          · refine .inr ⟨hi, ?_⟩
            rcases hiP_one hi with ⟨x1, x2⟩ | ⟨x1, x2⟩
            · rw [x2]; exact q1.a (2 * p + 2) (by omega) x1
            · rw [x2]; exact Int.le_refl _
          · refine .inr ⟨by omega, ?_⟩
            rcases hiP_one (show 2 * (2 * p + 2) < n by omega) with ⟨x1, x2⟩ | ⟨x1, x2⟩
            · rw [x2]; exact Int.le_refl _
            · omega
        have l1 := hiP_lt (n := n) (p := 2 * p + 1) (by omega)
        have l2 := hiP_lt (n := n) (p := 2 * p + 2) (by omega)
        unfold Tw.hw
        by_cases z : 2 * (2 * p + 2) < n ∧ T1.ah (hiP n (2 * p + 1)) (hiP n (2 * p + 2)) = true
        · rw [if_pos z]
          have := (ah_iff hc1 l1 l2).1 z.2
          exact ⟨.inr rfl, z.1, fun i i2 hi hp => by rcases e1 i i2 hi hp with w | w <;> omega⟩
        · rw [if_neg z]
          refine ⟨.inl rfl, g, fun i i2 hi hp => ?_⟩
          rcases e1 i i2 hi hp with w | w
          · exact w
          · have := ah_not hc1 l1 l2 (fun y => z ⟨w.1, y⟩)
            omega
      generalize T1.hw n p = u at *
      obtain ⟨w1, w2, w3⟩ := hw
      have lu := hiP_lt (n := n) (p := u) (by omega)
      have hhu := hiP_one w2
      rw [hb]
      by_cases t : T1.ah (2 * p + 1) (hiP n u) = true
      · rw [if_pos t]
        have t' := (ah_iff hc1 (by omega) lu).1 t
        have s := Pm.swap T1 (show 2 * p + 1 < n by omega) lu
        have := shL_law f u _ (s.cOk hc1) (q1.down w1 w2 rfl hab w3 t'
          (by rw [key_swap, if_neg (by omega), if_pos rfl]) (by rw [key_swap, if_pos rfl]) (fun j h1 h2 => by rw [key_swap, if_neg h2, if_neg h1])) w2 (by omega)
        exact ⟨this.1, (q3.trans s).trans this.2⟩
      · rw [if_neg t]
        have t' := ah_not hc1 (by omega) lu t
        exact ⟨q1.stop q2 (fun i i2 hi hp => by have := w3 i i2 hi hp; omega), q3⟩
end
end Go.Proofs.Ytakpokccjgoapaa
