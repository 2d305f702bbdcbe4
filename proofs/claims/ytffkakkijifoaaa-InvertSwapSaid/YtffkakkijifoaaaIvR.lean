/- invert, in plain numbers: the merge of two rows in order. No condition. -/
import Derived.Test.YtffkakkijifoaaaIvP
namespace Go.Proofs.Ytffkakkijifoaaa
set_option linter.unusedVariables false
set_option linter.unusedSimpArgs false
open Go.RowKit E
/-- Of the places x .. x + n, how many have it. -/
def cnI (P : Nat → Bool) (x : Nat) : Nat → Nat
  | 0 => 0
  | t + 1 => cnI P x t + if P (x + t) then 1 else 0
theorem cnI_congr {P Q : Nat → Bool} {x : Nat} : ∀ {n : Nat}, (∀ t, t < n → P (x + t) = Q (x + t)) → cnI P x n = cnI Q x n
  | 0, _ => rfl
  | n + 1, h => by unfold cnI; rw [cnI_congr (n := n) (fun t ht => h t (by omega)), h n (by omega)]
theorem cnI_add (P : Nat → Bool) (x m : Nat) : ∀ n, cnI P x (m + n) = cnI P x m + cnI P (x + m) n
  | 0 => rfl
  | n + 1 => by
    show cnI P x (m + n) + (if P (x + (m + n)) then 1 else 0) = cnI P x m + (cnI P (x + m) n + (if P (x + m + n) then 1 else 0))
    rw [cnI_add P x m n, Nat.add_assoc x m n, Nat.add_assoc]
theorem cnI_all {P : Nat → Bool} {x : Nat} : ∀ {n : Nat}, (∀ t, t < n → P (x + t) = true) → cnI P x n = n
  | 0, _ => rfl
  | n + 1, h => by unfold cnI; rw [cnI_all (n := n) (fun t ht => h t (by omega)), if_pos (h n (by omega))]
theorem cnI_none {P : Nat → Bool} {x : Nat} : ∀ {n : Nat}, (∀ t, t < n → P (x + t) = false) → cnI P x n = 0
  | 0, _ => rfl
  | n + 1, h => by unfold cnI; rw [cnI_none (n := n) (fun t ht => h t (by omega)), h n (by omega)]; simp
theorem cnI_le (P : Nat → Bool) (x : Nat) : ∀ n, cnI P x n ≤ n
  | 0 => Nat.le_refl _
  | n + 1 => by have := cnI_le P x n; unfold cnI; split <;> omega
theorem cnI_pos {P : Nat → Bool} {x : Nat} : ∀ {n : Nat}, 0 < cnI P x n → ∃ t, t < n ∧ P (x + t) = true
  | 0, h => by simp [cnI] at h
  | n + 1, h => by
    unfold cnI at h
    by_cases q : P (x + n) = true
    · exact ⟨n, by omega, q⟩
    · rw [if_neg q] at h
      obtain ⟨t, h1, h2⟩ := cnI_pos (n := n) (by omega)
      exact ⟨t, by omega, h2⟩
theorem cnI_one {P : Nat → Bool} {x : Nat} : ∀ {n t : Nat}, t < n → P (x + t) = true → 0 < cnI P x n
  | n + 1, t, h, k => by
    unfold cnI
    by_cases q : t = n
    · subst q; rw [if_pos k]; omega
    · have := cnI_one (n := n) (t := t) (by omega) k
      omega
/-- One place stands ahead of the other. -/
def ahd (L : Nat → Int) (i j : Nat) : Prop := L i < L j ∨ (L i = L j ∧ i < j)
theorem ahd_le {L : Nat → Int} {i j : Nat} (h : ahd L i j) : L i ≤ L j := by rcases h with h | h <;> omega
theorem ahd_ne {L : Nat → Int} {i j : Nat} (h : ahd L i j) : i ≠ j := by rintro rfl; rcases h with h | h <;> omega
theorem ahd_asym {L : Nat → Int} {i j : Nat} (h : ahd L i j) (k : ahd L j i) : False := by rcases h with h | h <;> rcases k with k | k <;> omega
def tn (R : Nat → Int) (k : Nat) : Nat := (R k).toNat
/-- Places of a window are in order, each once, and told how late. -/
structure Win (L : Nat → Int) (p : Nat → Int) (x n : Nat) : Prop where
  win : ∀ t, t < n → 0 ≤ p (x + t) ∧ x ≤ tn p (x + t) ∧ tn p (x + t) < x + n
  srt : ∀ a b, a < b → b < n → ahd L (tn p (x + a)) (tn p (x + b))
  cnt : ∀ P : Nat → Bool, cnI (fun k => P (tn p k)) x n = cnI P x n
structure Inv (L R p d : Nat → Int) (x h n i : Nat) (s : Mg) : Prop where
  ai : s.a ≤ i
  ah : s.a ≤ h
  bh : i - s.a ≤ n - h
  srt : ∀ t u, t < u → u < i → ahd L (tn s.p (x + t)) (tn s.p (x + u))
  fa : ∀ t u, t < i → s.a ≤ u → u < h → ahd L (tn s.p (x + t)) (tn R (x + u))
  fb : ∀ t u, t < i → i - s.a ≤ u → u < n - h → ahd L (tn s.p (x + t)) (tn R (x + h + u))
  win : ∀ t, t < i → 0 ≤ s.p (x + t) ∧ x ≤ tn s.p (x + t) ∧ tn s.p (x + t) < x + n
  cnt : ∀ P : Nat → Bool, cnI (fun k => P (tn s.p k)) x i = cnI (fun k => P (tn R k)) x s.a + cnI (fun k => P (tn R k)) (x + h) (i - s.a)
  le : ∀ t u, t < s.a → i - s.a ≤ u → u < n - h → L (tn R (x + t)) ≤ L (tn R (x + h + u))
  d1 : ∀ u, u < i - s.a → s.d (tn R (x + h + u)) = d (tn R (x + h + u)) + (cnI (fun k => decide (L (tn R (x + h + u)) < L k)) x h : Nat)
  d2 : ∀ j, (∀ u, u < i - s.a → tn R (x + h + u) ≠ j) → s.d j = d j
  out : ∀ k, (k < x ∨ x + i ≤ k) → s.p k = p k
theorem mgs_Inv {L R p d : Nat → Int} {x h n : Nat} (hh : h ≤ n) (hA : Win L R x h) (hB : Win L R (x + h) (n - h)) (hn : n ≤ 1000000) (hd : ∀ j, x + h ≤ j → j < x + n → 0 ≤ d j ∧ d j ≤ 1000000) :
    ∀ i, i ≤ n → Inv L R p d x h n i (mgs L R x h n p d i)
  | 0, _ => by
    refine ⟨Nat.le_refl _, Nat.zero_le _, Nat.zero_le _, ?_, ?_, ?_, ?_, ?_, ?_, ?_, ?_, ?_⟩
    · intro t u h1 h2; omega
    · intro t u h1; omega
    · intro t u h1; omega
    · intro t h1; omega
    · intro P; rfl
    · intro t u h1; simp [mgs] at h1
    · intro u h1; simp [mgs] at h1
    · intro j hj; rfl
    · intro k hk; rfl
  | i + 1, hi => by
    have ih := mgs_Inv (p := p) (d := d) hh hA hB hn hd i (by omega)
    simp only [mgs]
    generalize mgs L R x h n p d i = s at ih
    obtain ⟨ai, ah, bh, srt, fa, fb, win, cnt, le, d1, d2, out⟩ := ih
    have pa : ∀ (v : Int) (t : Nat), t < i → tn (putF s.p (x + i) v) (x + t) = tn s.p (x + t) := fun v t ht => by
      unfold tn putF; rw [if_neg (by omega)]
    have pn : ∀ (v : Int), tn (putF s.p (x + i) v) (x + i) = v.toNat := fun v => by unfold tn putF; rw [if_pos rfl]
    have pc : ∀ (v : Int) (P : Nat → Bool), cnI (fun k => P (tn (putF s.p (x + i) v) k)) x (i + 1) = cnI (fun k => P (tn s.p k)) x i + if P v.toNat then 1 else 0 := fun v P => by
      show cnI _ x i + (if P (tn (putF s.p (x + i) v) (x + i)) then 1 else 0) = _
      rw [cnI_congr (Q := fun k => P (tn s.p k)) (fun t ht => by simp only [pa v t ht]), pn v]
    -- the new one ahead of what is left
    have key : ∀ (e : Int) (a' : Nat), 0 ≤ e → x ≤ e.toNat → e.toNat < x + n → s.a ≤ a' → a' ≤ i + 1 → i - s.a ≤ i + 1 - a' → (∀ t, t < i → ahd L (tn s.p (x + t)) e.toNat) → (∀ u, a' ≤ u → u < h → ahd L e.toNat (tn R (x + u))) → (∀ u, i + 1 - a' ≤ u → u < n - h → ahd L e.toNat (tn R (x + h + u))) →
        (∀ t u, t < u → u < i + 1 → ahd L (tn (putF s.p (x + i) e) (x + t)) (tn (putF s.p (x + i) e) (x + u))) ∧
        (∀ t u, t < i + 1 → a' ≤ u → u < h → ahd L (tn (putF s.p (x + i) e) (x + t)) (tn R (x + u))) ∧
        (∀ t u, t < i + 1 → i + 1 - a' ≤ u → u < n - h → ahd L (tn (putF s.p (x + i) e) (x + t)) (tn R (x + h + u))) ∧
        (∀ t, t < i + 1 → 0 ≤ putF s.p (x + i) e (x + t) ∧ x ≤ tn (putF s.p (x + i) e) (x + t) ∧ tn (putF s.p (x + i) e) (x + t) < x + n) ∧
        (∀ k, (k < x ∨ x + (i + 1) ≤ k) → putF s.p (x + i) e k = p k) := by
      intro e a' e0 e1 e2 ha1 ha2 ha3 h1 h2 h3
      refine ⟨fun t u htu hu => ?_, fun t u ht hu1 hu2 => ?_, fun t u ht hu1 hu2 => ?_, fun t ht => ?_, fun k hk => ?_⟩
      · rw [pa e t (by omega)]
        by_cases q : u = i
        · subst q; rw [pn]; exact h1 t htu
        · rw [pa e u (by omega)]; exact srt t u htu (by omega)
      · by_cases q : t = i
        · subst q; rw [pn]; exact h2 u hu1 hu2
        · rw [pa e t (by omega)]; exact fa t u (by omega) (by omega) hu2
      · by_cases q : t = i
        · subst q; rw [pn]; exact h3 u hu1 hu2
        · rw [pa e t (by omega)]; exact fb t u (by omega) (by omega) hu2
      · by_cases q : t = i
        · subst q; rw [pn]; exact ⟨by unfold putF; rw [if_pos rfl]; exact e0, e1, e2⟩
        · rw [pa e t (by omega)]
          have := win t (by omega)
          exact ⟨by unfold putF; rw [if_neg (by omega)]; exact this.1, this.2⟩
      · unfold putF; rw [if_neg (by omega)]; exact out k (by omega)
    by_cases ht : tkA L R x h n i s.a = true
    · rw [if_pos ht]
      simp only [tkA, Bool.or_eq_true, Bool.and_eq_true, decide_eq_true_eq] at ht
      have hah : s.a < h := by omega
      have wa := hA.win s.a hah
      have hle : ∀ u, i - s.a ≤ u → u < n - h → L (tn R (x + s.a)) ≤ L (tn R (x + h + u)) := fun u h1 h2 => by
        rcases ht with q | ⟨_, q⟩
        · omega
        · have q' : L (tn R (x + s.a)) ≤ L (tn R (x + h + (i - s.a))) := q
          rcases Nat.lt_or_ge (i - s.a) u with r | r
          · have := ahd_le (hB.srt (i - s.a) u r h2); omega
          · have : u = i - s.a := by omega
            subst this; exact q'
      have eb : i + 1 - (s.a + 1) = i - s.a := by omega
      obtain ⟨k1, k2, k3, k4, k5⟩ := key (R (x + s.a)) (s.a + 1) wa.1 wa.2.1 (by have := wa.2.2; unfold tn at this; omega) (by omega) (by omega) (by omega) (fun t ht => fa t s.a ht (Nat.le_refl _) hah)
        (fun u h1 h2 => hA.srt s.a u h1 h2)
        (fun u h1 h2 => by
          have := hle u (by omega) h2
          have wb := hB.win u h2
          have w2 : tn R (x + s.a) < x + h := wa.2.2
          show ahd L (tn R (x + s.a)) _
          unfold ahd
          rcases Int.lt_or_eq_of_le this with q | q
          · exact .inl q
          · exact .inr ⟨q, by omega⟩)
      refine ⟨by show s.a + 1 ≤ i + 1; omega, hah, by show i + 1 - (s.a + 1) ≤ _; omega, k1, k2, k3, k4, fun P => ?_, fun t u h1 h2 h3 => ?_, ?_, ?_, k5⟩
      · show _ = cnI _ x (s.a + 1) + cnI _ (x + h) (i + 1 - (s.a + 1))
        rw [pc, cnt P, eb]
        show _ = cnI (fun k => P (tn R k)) x s.a + (if P (tn R (x + s.a)) then 1 else 0) + _
        show _ + _ + (if P (tn R (x + s.a)) then 1 else 0) = _
        omega
      · have h1' : t < s.a + 1 := h1
        have h2' : i + 1 - (s.a + 1) ≤ u := h2
        by_cases q : t = s.a
        · subst q; exact hle u (by omega) h3
        · exact le t u (by omega) (by omega) h3
      · intro u hu
        have hu' : u < i + 1 - (s.a + 1) := hu
        exact d1 u (by omega)
      · intro j hj
        exact d2 j (fun u hu => hj u (by show u < i + 1 - (s.a + 1); omega))
    · rw [if_neg ht]
      simp only [tkA, Bool.or_eq_true, Bool.and_eq_true, decide_eq_true_eq, not_or, not_and] at ht
      have hbh : i - s.a < n - h := by omega
      have wb := hB.win (i - s.a) hbh
      have hgt : ∀ u, s.a ≤ u → u < h → L (tn R (x + h + (i - s.a))) < L (tn R (x + u)) := fun u h1 h2 => by
        have q := ht.2 (by omega)
        have q' : ¬ L (tn R (x + s.a)) ≤ L (tn R (x + h + (i - s.a))) := q
        rcases Nat.lt_or_ge s.a u with r | r
        · have := ahd_le (hA.srt s.a u r h2); omega
        · have : u = s.a := by omega
          subst this; omega
      have eb : i + 1 - s.a = i - s.a + 1 := by omega
      have hcl : cnI (fun k => decide (L (tn R (x + h + (i - s.a))) < L k)) x h = h - s.a := by
        rw [← hA.cnt (fun k => decide (L (tn R (x + h + (i - s.a))) < L k))]
        have hs : ∀ Q : Nat → Bool, cnI Q x h = cnI Q x s.a + cnI Q (x + s.a) (h - s.a) := fun Q => by
          have := cnI_add Q x s.a (h - s.a)
          rwa [show s.a + (h - s.a) = h by omega] at this
        rw [hs, cnI_none (fun t ht' => decide_eq_false (by have := le t (i - s.a) ht' (Nat.le_refl _) hbh; omega)), cnI_all (n := h - s.a) (fun t ht' => decide_eq_true (by
          have := hgt (s.a + t) (by omega) (by omega)
          rw [← Nat.add_assoc x s.a t] at this; exact this))]
        omega
      have dB := hd (tn R (x + h + (i - s.a))) (by omega) (by omega)
      have dold : s.d (tn R (x + h + (i - s.a))) = d (tn R (x + h + (i - s.a))) := d2 _ (fun u hu => ahd_ne (hB.srt u (i - s.a) hu hbh))
      have hw : IntKind.wrap .i64 (s.d (tn R (x + h + (i - s.a))) + ((h - s.a : Nat) : Int)) = d (tn R (x + h + (i - s.a))) + (cnI (fun k => decide (L (tn R (x + h + (i - s.a))) < L k)) x h : Nat) := by
        rw [hcl, dold]; exact w64 rfl (by omega)
      obtain ⟨k1, k2, k3, k4, k5⟩ := key (R (x + h + (i - s.a))) s.a wb.1 (by have := wb.2.1; unfold tn at this; omega) (by have := wb.2.2; unfold tn at this; omega) (Nat.le_refl _) (by omega) (by omega) (fun t ht => fb t (i - s.a) ht (Nat.le_refl _) hbh)
        (fun u h1 h2 => .inl (hgt u h1 h2))
        (fun u h1 h2 => hB.srt (i - s.a) u (by omega) h2)
      refine ⟨by show s.a ≤ i + 1; omega, ah, by show i + 1 - s.a ≤ _; omega, k1, k2, k3, k4, fun P => ?_, fun t u h1 h2 h3 => ?_, ?_, ?_, k5⟩
      · show _ = cnI _ x s.a + cnI _ (x + h) (i + 1 - s.a)
        rw [pc, cnt P, eb]
        show _ = _ + (cnI (fun k => P (tn R k)) (x + h) (i - s.a) + (if P (tn R (x + h + (i - s.a))) then 1 else 0))
        show _ + _ + (if P (tn R (x + h + (i - s.a))) then 1 else 0) = _
        omega
      · have h2' : i + 1 - s.a ≤ u := h2
        exact le t u h1 (by omega) h3
      · intro u hu
        have hu' : u < i + 1 - s.a := hu
        show putF s.d (tn R (x + h + (i - s.a))) (IntKind.wrap .i64 (s.d (tn R (x + h + (i - s.a))) + ((h - s.a : Nat) : Int))) (tn R (x + h + u)) = _
        rw [hw]
        unfold putF
        by_cases q : u = i - s.a
        · subst q; rw [if_pos rfl]
        · rw [if_neg (ahd_ne (hB.srt u (i - s.a) (by omega) hbh))]
          exact d1 u (by omega)
      · intro j hj
        show putF s.d (tn R (x + h + (i - s.a))) _ j = _
        unfold putF
        rw [if_neg (fun q => hj (i - s.a) (by show i - s.a < i + 1 - s.a; omega) q.symm)]
        exact d2 j (fun u hu => hj u (by show u < i + 1 - s.a; omega))
end Go.Proofs.Ytffkakkijifoaaa
