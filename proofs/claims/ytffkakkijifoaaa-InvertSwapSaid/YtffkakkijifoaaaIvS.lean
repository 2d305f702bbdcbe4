/- invert, in plain numbers: what sorted makes. No condition. -/
import Derived.Test.YtffkakkijifoaaaIvR
namespace Go.Proofs.Ytffkakkijifoaaa
set_option linter.unusedVariables false
set_option linter.unusedSimpArgs false
open Go.RowKit E
theorem Win.congr {L p p' : Nat → Int} {x n : Nat} (h : Win L p x n) (e : ∀ t, t < n → p' (x + t) = p (x + t)) : Win L p' x n := by
  have e' : ∀ t, t < n → tn p' (x + t) = tn p (x + t) := fun t ht => by unfold tn; rw [e t ht]
  refine ⟨fun t ht => by rw [e t ht, e' t ht]; exact h.win t ht, fun a b h1 h2 => by rw [e' a (by omega), e' b h2]; exact h.srt a b h1 h2, fun P => ?_⟩
  rw [← h.cnt P]
  exact cnI_congr (fun t ht => by simp only [e' t ht])
theorem Win.has {L p : Nat → Int} {x n : Nat} (h : Win L p x n) {j : Nat} (h1 : x ≤ j) (h2 : j < x + n) : ∃ t, t < n ∧ tn p (x + t) = j := by
  have hc := h.cnt (fun k => decide (k = j))
  have hp : 0 < cnI (fun k => decide (k = j)) x n := cnI_one (t := j - x) (by omega) (decide_eq_true (by omega))
  obtain ⟨t, ht, he⟩ := cnI_pos (P := fun k => decide (tn p k = j)) (x := x) (n := n) (by show 0 < cnI (fun k => (fun q => decide (q = j)) (tn p k)) x n; rw [hc]; exact hp)
  exact ⟨t, ht, of_decide_eq_true he⟩
theorem mrg_win {L : Nat → Int} : ∀ (K x n : Nat) (s : Ms), n ≤ K → n ≤ 1000000 → (∀ t, t < n → s.p (x + t) = ((x + t : Nat) : Int)) → (∀ j, x ≤ j → j < x + n → s.d j = 0) →
    Win L (mrg L K x n s).p x n ∧ (∀ j, x ≤ j → j < x + n → (mrg L K x n s).d j = (cnI (fun k => decide (L j < L k)) x (j - x) : Nat)) ∧
    (∀ k, (k < x ∨ x + n ≤ k) → (mrg L K x n s).p k = s.p k) ∧ (∀ k, (k < x ∨ x + n ≤ k) → (mrg L K x n s).d k = s.d k) := by
  intro K
  have small : ∀ (x n : Nat) (s : Ms), n < 2 → (∀ t, t < n → s.p (x + t) = ((x + t : Nat) : Int)) → (∀ j, x ≤ j → j < x + n → s.d j = 0) →
      Win L s.p x n ∧ (∀ j, x ≤ j → j < x + n → s.d j = (cnI (fun k => decide (L j < L k)) x (j - x) : Nat)) := by
    intro x n s hn hp hd
    have e' : ∀ t, t < n → tn s.p (x + t) = x + t := fun t ht => by unfold tn; rw [hp t ht]; exact Int.toNat_natCast _
    refine ⟨⟨fun t ht => by rw [e' t ht, hp t ht]; omega, fun a b h1 h2 => by omega, fun P => cnI_congr (fun t ht => by simp only [e' t ht])⟩, fun j h1 h2 => ?_⟩
    rw [hd j h1 h2, show j - x = 0 by omega]; rfl
  induction K with
  | zero =>
    intro x n s hn _ hp hd
    obtain ⟨a, b⟩ := small x n s (by omega) hp hd
    exact ⟨a, b, fun _ _ => rfl, fun _ _ => rfl⟩
  | succ K ih =>
    intro x n s hn hm hp hd
    by_cases q : n < 2
    · obtain ⟨a, b⟩ := small x n s q hp hd
      have e : mrg L (K + 1) x n s = s := by unfold mrg; rw [if_pos q]
      rw [e]
      exact ⟨a, b, fun _ _ => rfl, fun _ _ => rfl⟩
    · rw [mrg_big L K x n s q]
      obtain ⟨w1, l1, p1, d1⟩ := ih x (n / 2) s (by omega) (by omega) (fun t ht => hp t (by omega)) (fun j h1 h2 => hd j h1 (by omega))
      generalize mrg L K x (n / 2) s = s1 at *
      obtain ⟨w2, l2, p2, d2⟩ := ih (x + n / 2) (n - n / 2) s1 (by omega) (by omega) (fun t ht => by
        rw [p1 _ (by omega), Nat.add_assoc, hp (n / 2 + t) (by omega)]) (fun j h1 h2 => by rw [d1 _ (by omega)]; exact hd j (by omega) (by omega))
      generalize mrg L K (x + n / 2) (n - n / 2) s1 = s2 at *
      have rw0 : ∀ k, x ≤ k → k < x + n → ovr s2.p s2.r x n k = s2.p k := fun k h1 h2 => by unfold ovr; rw [if_pos ⟨h1, h2⟩]
      have hA : Win L (ovr s2.p s2.r x n) x (n / 2) := w1.congr (fun t ht => by rw [rw0 _ (by omega) (by omega), p2 _ (by omega)])
      have hB : Win L (ovr s2.p s2.r x n) (x + n / 2) (n - n / 2) := w2.congr (fun t ht => rw0 _ (by omega) (by omega))
      have inv := mgs_Inv (L := L) (p := s2.p) (d := s2.d) (by omega) hA hB hm (fun j h1 h2 => by
        rw [l2 j h1 (by omega)]
        have := cnI_le (fun k => decide (L j < L k)) (x + n / 2) (j - (x + n / 2))
        omega) n (Nat.le_refl _)
      generalize mgs L (ovr s2.p s2.r x n) x (n / 2) n s2.p s2.d n = m at inv
      have ha : m.a = n / 2 := by have := inv.ai; have := inv.ah; have := inv.bh; omega
      have hb : n - m.a = n - n / 2 := by omega
      refine ⟨⟨inv.win, fun a b h1 h2 => inv.srt a b h1 h2, fun P => ?_⟩, fun j h1 h2 => ?_, fun k hk => ?_, fun k hk => ?_⟩
      · rw [inv.cnt P, ha, hA.cnt P, hB.cnt P]
        have := cnI_add P x (n / 2) (n - n / 2)
        rw [show n / 2 + (n - n / 2) = n by omega] at this
        exact this.symm
      · show m.d j = _
        by_cases hj : j < x + n / 2
        · rw [inv.d2 j (fun u hu e => by have := (hB.win u (by omega)).2.1; omega), d2 j (by omega)]
          exact l1 j h1 hj
        · obtain ⟨u, hu, e⟩ := hB.has (j := j) (by omega) (by omega)
          have := inv.d1 u (by omega)
          rw [e] at this
          rw [this, l2 j (by omega) (by omega)]
          have := cnI_add (fun k => decide (L j < L k)) x (n / 2) (j - (x + n / 2))
          rw [show n / 2 + (j - (x + n / 2)) = j - x by omega] at this
          rw [this]; omega
      · show m.p k = _
        rw [inv.out k hk, p2 k (by omega), p1 k (by omega)]
      · show m.d k = _
        rw [inv.d2 k (fun u hu e => by have := (hB.win u (by omega)).2; omega), d2 k (by omega), d1 k (by omega)]
theorem srt_win (L : Nat → Int) {N : Nat} (hN : N ≤ 1000) : Win L (srt L N).p 0 N ∧ ∀ j, j < N → (srt L N).d j = (cnI (fun k => decide (L j < L k)) 0 j : Nat) := by
  obtain ⟨h1, h2, _⟩ := mrg_win (L := L) N 0 N ⟨idT N, z0, z0⟩ (Nat.le_refl _) (by omega) (fun t ht => by simp only [idT]; rw [if_pos (by omega)]) (fun _ _ _ => rfl)
  exact ⟨h1, fun j hj => by rw [show (srt L N).d j = _ from h2 j (Nat.zero_le _) (by omega)]; rfl⟩
theorem cGt_cI (L : Nat → Int) (i : Nat) : ∀ m, cGt L i m = cnI (fun k => decide (L i < L k)) 0 m
  | 0 => rfl
  | m + 1 => by
    unfold cGt cnI
    rw [cGt_cI L i m, Nat.zero_add]
    by_cases q : L i < L m <;> simp [q]
theorem cRk_cI (L : Nat → Int) (i : Nat) : ∀ m, cRk L i m = cnI (fun k => decide (L k < L i ∨ (L k = L i ∧ k < i))) 0 m
  | 0 => rfl
  | m + 1 => by
    unfold cRk cnI
    rw [cRk_cI L i m, Nat.zero_add]
    by_cases q : L m < L i ∨ (L m = L i ∧ m < i) <;> simp [q]
theorem late_eq (L : Nat → Int) {N : Nat} (hN : N ≤ 1000) (j : Nat) (hj : j < N) : (srt L N).d j = (cGt L j j : Nat) := by
  rw [(srt_win L hN).2 j hj, cGt_cI]
theorem lateT_eq (L : Nat → Int) : ∀ (m j : Nat), j < m → lateT L m j = (cGt L j j : Nat)
  | m + 1, j, h => by
    unfold lateT putF
    by_cases q : j = m
    · subst q; rw [if_pos rfl]
    · rw [if_neg q]; exact lateT_eq L m j (by omega)
theorem same_late (L : Nat → Int) {N : Nat} (hN : N ≤ 1000) : sameB N N (srt L N).d (lateT L N) = true :=
  decide_eq_true ⟨rfl, fun i hi => by rw [late_eq L hN i hi, lateT_eq L N i hi]⟩
instance ahdDec (L : Nat → Int) (i j : Nat) : Decidable (ahd L i j) := inferInstanceAs (Decidable (L i < L j ∨ (L i = L j ∧ i < j)))
theorem rank_eq (L : Nat → Int) {N : Nat} (hN : N ≤ 1000) (t : Nat) (ht : t < N) : cRk L (tn (srt L N).p t) N = t := by
  obtain ⟨w, _⟩ := srt_win L hN
  rw [cRk_cI, ← w.cnt]
  have e := cnI_add (fun k => decide (L (tn (srt L N).p k) < L (tn (srt L N).p t) ∨ (L (tn (srt L N).p k) = L (tn (srt L N).p t) ∧ tn (srt L N).p k < tn (srt L N).p t))) 0 t (N - t)
  rw [show t + (N - t) = N by omega] at e
  refine e.trans ?_
  have h1 : ∀ u, u < t → ahd L (tn (srt L N).p (0 + u)) (tn (srt L N).p t) := fun u hu => by
    have := w.srt u t hu ht
    rwa [Nat.zero_add t] at this
  have h2 : ∀ u, u < N - t → ¬ ahd L (tn (srt L N).p (0 + t + u)) (tn (srt L N).p t) := fun u hu q => by
    rw [Nat.zero_add] at q
    by_cases h0 : u = 0
    · subst h0; exact ahd_ne q rfl
    · have := w.srt t (t + u) (by omega) (by omega)
      rw [Nat.zero_add, Nat.zero_add] at this
      exact ahd_asym q this
  refine (congr (congrArg _ (cnI_all (n := t) (fun u hu => decide_eq_true (h1 u hu)))) (cnI_none (n := N - t) (fun u hu => decide_eq_false (h2 u hu)))).trans (Nat.add_zero t)
theorem ordF_eq (L : Nat → Int) {N : Nat} (hN : N ≤ 1000) (k : Nat) (hk : k < N) : ∀ m, m ≤ N → tn (srt L N).p k < m → ordF L N m k = (tn (srt L N).p k : Nat)
  | m + 1, hm, h => by
    have r := rank_eq L hN k hk
    unfold ordF putF
    by_cases q : k = cRk L m N
    · rw [if_pos q]
      obtain ⟨t, ht, e⟩ := (srt_win L hN).1.has (j := m) (Nat.zero_le _) (by omega)
      rw [Nat.zero_add] at e
      have r2 := rank_eq L hN t ht
      rw [e] at r2
      have : t = k := by omega
      subst this
      rw [e]
    · rw [if_neg q]
      refine ordF_eq L hN k hk m (by omega) ?_
      have : tn (srt L N).p k ≠ m := fun e => q (by rw [← e, r])
      omega
theorem p_nat (L : Nat → Int) {N : Nat} (hN : N ≤ 1000) (k : Nat) (hk : k < N) : (srt L N).p k = (tn (srt L N).p k : Nat) ∧ tn (srt L N).p k < N := by
  have := (srt_win L hN).1.win k hk
  rw [Nat.zero_add, Nat.zero_add] at this
  unfold tn at this ⊢
  omega
theorem same_order (L : Nat → Int) {N : Nat} (hN : N ≤ 1000) : sameB N N (srt L N).p (ordF L N N) = true :=
  decide_eq_true ⟨rfl, fun i hi => by
    obtain ⟨h1, h2⟩ := p_nat L hN i hi
    rw [ordF_eq L hN i hi N (Nat.le_refl _) h2]; exact h1⟩
/-! sums -/
def sS (L : Nat → Int) : Nat → Nat
  | 0 => 0
  | j + 1 => sS L j + cGt L j j
theorem sS_le (L : Nat → Int) : ∀ m, sS L m ≤ m * m
  | 0 => Nat.le_refl _
  | m + 1 => by
    have := sS_le L m
    have := cGt_le L m m
    unfold sS
    rw [Nat.mul_add, Nat.add_mul]; omega
theorem sumW_eq (L : Nat → Int) {N : Nat} (hN : N ≤ 1000) : ∀ m, m ≤ N → sumW (srt L N).d m = (sS L m : Nat)
  | 0, _ => rfl
  | m + 1, h => by
    have h1 := sS_le L m
    have h2 := cGt_le L m m
    have h3 : m * m ≤ 1000 * 1000 := Nat.mul_le_mul (by omega) (by omega)
    unfold sumW
    rw [sumW_eq L hN m (by omega), late_eq L hN m (by omega), wU64 (a := ((cGt L m m : Nat) : Int)) rfl (by omega)]
    rw [show sS L (m + 1) = sS L m + cGt L m m from rfl]
    exact wU64 (by omega) (by omega)
theorem invD_step (L : Nat → Int) (N : Nat) : ∀ m, m ≤ N → invD L (N + 1) m = invD L N m + cGt L N m
  | 0, _ => rfl
  | m + 1, h => by
    unfold invD cGt
    rw [invD_step L N m (by omega), show N + 1 - (m + 1) = N - (m + 1) + 1 by omega]
    show _ + (cAft L m (N - (m + 1)) + if L (m + 1 + (N - (m + 1))) < L m then 1 else 0) = _
    rw [show m + 1 + (N - (m + 1)) = N by omega]
    omega
theorem invD_eq (L : Nat → Int) : ∀ N, invD L N N = sS L N
  | 0 => rfl
  | N + 1 => by
    show invD L (N + 1) N + cAft L N (N + 1 - (N + 1)) = sS L N + cGt L N N
    rw [invD_step L N N (Nat.le_refl _), invD_eq L N, Nat.sub_self]
    rfl
theorem count_eq (L : Nat → Int) {N : Nat} (hN : N ≤ 1000) : (sumW (srt L N).d N == (invD L N N : Nat)) = true := by
  rw [sumW_eq L hN N (Nat.le_refl _), invD_eq]; exact beq_self_eq_true _
end Go.Proofs.Ytffkakkijifoaaa
