/- admit: the gate and the document's gate go side by side. No condition. -/
import Derived.Test.YtmhkbepnankopaaAeJ
namespace Go.Proofs.Ytmhkbepnankopaa
set_option linter.unusedVariables false
set_option linter.unusedSimpArgs false
open Go.RowKit E
/-- A plain sum. -/
def tS (F : Nat → Int) : Nat → Int
  | 0 => 0
  | i + 1 => tS F i + F i
theorem tS_nn {F : Nat → Int} : ∀ {n : Nat}, (∀ j, j < n → 0 ≤ F j) → 0 ≤ tS F n
  | 0, _ => by unfold tS; omega
  | n + 1, h => by have := tS_nn (n := n) (fun j hj => h j (by omega)); have := h n (by omega); unfold tS; omega
theorem tS_le {F : Nat → Int} : ∀ {n : Nat}, (∀ j, j < n → 0 ≤ F j) → ∀ j, j < n → F j ≤ tS F n
  | n + 1, h, j, hj => by
    have h1 := tS_nn (n := n) (fun j hj => h j (by omega))
    unfold tS
    by_cases e : j = n
    · subst e; omega
    · have := tS_le (n := n) (fun j hj => h j (by omega)) j (by omega)
      have := h n (by omega)
      omega
theorem tS_mono {F : Nat → Int} {n : Nat} (h : ∀ j, j < n → 0 ≤ F j) : ∀ i, i ≤ n → 0 ≤ tS F i ∧ tS F i ≤ tS F n := by
  intro i hi
  refine ⟨tS_nn (fun j hj => h j (by omega)), ?_⟩
  induction n with
  | zero => have : i = 0 := by omega
            subst this; omega
  | succ n ih =>
    by_cases e : i = n + 1
    · subst e; omega
    · have := ih (fun j hj => h j (by omega)) (by omega)
      have := h n (by omega)
      show tS F i ≤ tS F n + F n
      omega
theorem sI_t {F : Nat → Int} {n : Nat} (h : ∀ j, j < n → 0 ≤ F j) (hm : tS F n ≤ 9223372036854775807) : ∀ i, i ≤ n → sI F i = tS F i
  | 0, _ => rfl
  | i + 1, hi => by
    have h1 := tS_mono h (i + 1) hi
    unfold sI
    rw [sI_t h hm i (by omega)]
    have e : tS F (i + 1) = tS F i + F i := rfl
    exact w64 rfl (by omega)
theorem sU_t {F : Nat → Int} {n : Nat} (h : ∀ j, j < n → 0 ≤ F j) (hm : tS F n ≤ 18446744073709551615) : ∀ i, i ≤ n → sU F i = tS F i
  | 0, _ => rfl
  | i + 1, hi => by
    have h1 := tS_mono h (i + 1) hi
    unfold sU
    rw [sU_t h hm i (by omega)]
    have e : tS F (i + 1) = tS F i + F i := rfl
    show (tS F i + F i) % 18446744073709551616 = tS F i + F i
    omega
theorem tS_off {F : Nat → Int} {j : Nat} {v : Int} : ∀ n, n ≤ j → tS (putF F j v) n = tS F n
  | 0, _ => rfl
  | n + 1, h => by
    unfold tS
    rw [tS_off n (by omega)]
    have : putF F j v n = F n := by unfold putF; rw [if_neg (by omega)]
    rw [this]
theorem tS_put {F : Nat → Int} {j : Nat} {v : Int} : ∀ n, j < n → tS (putF F j v) n = tS F n - F j + v
  | n + 1, h => by
    unfold tS
    by_cases e : j = n
    · subst e
      rw [tS_off j (Nat.le_refl _)]
      have : putF F j v j = v := by unfold putF; rw [if_pos rfl]
      rw [this]; omega
    · rw [tS_put n (by omega)]
      have : putF F j v n = F n := by unfold putF; rw [if_neg (by omega)]
      rw [this]; omega
/-- What a configuration that may be is. -/
structure COk (c : Cf) (n : Nat) (F : Fl) : Prop where
  P0 : 1 ≤ c.P
  P1 : c.P ≤ 4096
  B0 : 0 ≤ c.B
  B1 : c.B ≤ 18446744073709551615
  S0 : 0 ≤ c.S
  S1 : c.S ≤ 16
  n1 : n ≤ 64
  id : ∀ j k, j < n → k < j → F.id j ≠ F.id k
  ca : ∀ j, j < n → 0 ≤ F.ca j ∧ F.ca j ≤ 18446744073709551615
/-- The gate x and the document's gate, with the packets P and the bytes B of each flow. -/
structure Sim (c : Cf) (n : Nat) (F : Fl) (x : Ga) (P B : Nat → Int) : Prop where
  ok : x.ok
  inv : Inv x.M x.T
  eP : x.P = c.P
  eB : x.B = c.B
  eS : x.S = c.S
  eU : x.U = c.U
  hn : x.n = tS P n
  hb : x.b = tS B n
  p0 : ∀ j, j < n → 0 ≤ P j
  b0 : ∀ j, j < n → 0 ≤ B j
  b1 : ∀ j, j < n → B j ≤ F.ca j
  pT : tS P n ≤ c.P
  bT : tS B n ≤ c.B
  tab : ∀ y, look17 x.M x.T y = if idx F.id y n < 0 then none else some ⟨y, true, P (idx F.id y n).toNat, B (idx F.id y n).toNat, F.ca (idx F.id y n).toNat⟩
theorem gt_none {M : Nat} {T : Nat → Sl} {y : Int} (h : look17 M T y = none) : gtU M T y = false ∧ gtP M T y = 0 ∧ gtB M T y = 0 := by
  have h1 := look_none.1 h
  unfold gtU gtP gtB
  rw [h1]
  exact ⟨rfl, rfl, rfl⟩
theorem gt_some {M : Nat} {T : Nat → Sl} {y : Int} {s : Sl} (h : look17 M T y = some s) : gtU M T y = true ∧ gtP M T y = s.pk ∧ gtB M T y = s.bt ∧ gtO M T y = s.mo := by
  unfold look17 at h
  split at h
  · rename_i g
    cases h
    unfold gtU gtP gtB gtO
    rw [if_pos g, if_pos g, if_pos g]
    exact ⟨g, rfl, rfl, rfl⟩
  · cases h
section
variable {c : Cf} {n : Nat} {F : Fl} {x : Ga} {P B : Nat → Int}
theorem Sim.ok2 (hc : COk c n F) (h : Sim c n F x P B) : x.ok2 := by
  have := h.hb; have := tS_nn h.b0; have := h.bT; have := h.eB; have := hc.B1
  unfold Ga.ok2
  omega
theorem Sim.bd (hc : COk c n F) (h : Sim c n F x P B) : Rg.bd ⟨c, n, F, P, B⟩ := fun j hj => by
  have := h.b0 j hj; have := h.b1 j hj; have := (hc.ca j hj).2
  exact ⟨h.b0 j hj, show B j ≤ _ by omega⟩
theorem Sim.sums (hc : COk c n F) (h : Sim c n F x P B) : sI P n = x.n ∧ sU B n = x.b := by
  have h1 := h.pT; have h2 := hc.P1; have h3 := h.bT; have h4 := hc.B1
  rw [h.hn, h.hb]
  exact ⟨sI_t h.p0 (by omega) n (Nat.le_refl _), sU_t h.b0 (by omega) n (Nat.le_refl _)⟩
theorem Sim.left (hc : COk c n F) (h : Sim c n F x P B) : IntKind.wrap IntKind.u64 (c.B - x.b) = c.B - x.b := by
  have := h.hb; have := tS_nn h.b0; have := h.bT; have := hc.B1
  show (c.B - x.b) % 18446744073709551616 = _
  omega
theorem Sim.own (h : Sim c n F x P B) (y : Int) : gtP x.M x.T y = (Rg.mk c n F P B).ownP y ∧ gtB x.M x.T y = (Rg.mk c n F P B).ownB y := by
  have ht := h.tab y
  unfold Rg.ownP Rg.ownB Rg.at'
  by_cases e : idx F.id y n < 0
  · rw [if_pos e] at ht
    obtain ⟨_, g1, g2⟩ := gt_none ht
    rw [g1, g2]
    exact ⟨(if_pos e).symm, (if_pos e).symm⟩
  · rw [if_neg e] at ht
    obtain ⟨_, g1, g2, _⟩ := gt_some ht
    rw [g1, g2]
    exact ⟨(if_neg e).symm, (if_neg e).symm⟩
/-- Both answer alike. -/
theorem Sim.fit (hc : COk c n F) (h : Sim c n F x P B) (y k : Int) (k0 : 0 ≤ k) (k1 : k ≤ 18446744073709551615) : x.fit y k = (Rg.mk c n F P B).fit y k := by
  obtain ⟨s1, s2⟩ := h.sums hc
  have hl := h.left hc
  have ht := h.tab y
  unfold Ga.fit Rg.fit Rg.at'
  simp only
  rw [h.eU, h.eP, h.eB, s1, s2, hl]
  by_cases a : k = 0 ∨ c.U < k
  · rw [if_pos a, if_pos a]
  rw [if_neg a, if_neg a]
  by_cases e : idx F.id y n < 0
  · rw [if_pos e] at ht
    rw [if_pos e, if_pos (gt_none ht).1]
  rw [if_neg e] at ht
  obtain ⟨g0, g1, g2, g3⟩ := gt_some ht
  rw [if_neg e, if_neg (by rw [g0]; simp)]
  by_cases a2 : c.P ≤ x.n
  · rw [if_pos a2, if_pos a2]
  rw [if_neg a2, if_neg a2]
  by_cases a3 : c.B - x.b < k
  · rw [if_pos a3, if_pos a3]
  rw [if_neg a3, if_neg a3, g2, g3]
  obtain ⟨i0, i1, i2⟩ := idx_k e
  have b1 := h.b1 _ i2
  have b0 := h.b0 _ i2
  have c1 := (hc.ca _ i2).2
  have q1 := tS_le h.b0 _ i2
  have q2 := h.hb
  have q3 := h.bT
  have q4 := hc.B1
  simp only
  have ew : IntKind.wrap IntKind.u64 (F.ca (idx F.id y n).toNat - B (idx F.id y n).toNat) = F.ca (idx F.id y n).toNat - B (idx F.id y n).toNat := by
    show (F.ca (idx F.id y n).toNat - B (idx F.id y n).toNat) % 18446744073709551616 = _
    omega
  rw [ew]
  have ec : capU (B (idx F.id y n).toNat + k) = B (idx F.id y n).toNat + k := by
    unfold capU
    rw [if_pos (by omega)]
  rw [ec]
  by_cases a4 : F.ca (idx F.id y n).toNat < B (idx F.id y n).toNat + k
  · rw [if_pos a4, if_pos (.inr (by omega))]
  · rw [if_neg a4, if_neg (by omega)]
theorem Sim.may (hc : COk c n F) (h : Sim c n F x P B) (y k : Int) (k0 : 0 ≤ k) (k1 : k ≤ 18446744073709551615) : x.may y k = (Rg.mk c n F P B).may y k := by
  obtain ⟨s1, s2⟩ := h.sums hc
  unfold Ga.may Rg.may
  rw [h.fit hc y k k0 k1, (h.own y).2, h.eB, h.eS]
  simp only
  rw [s2]
theorem Sim.outE (h : Sim c n F x P B) (y k : Int) : x.outE y k = (Rg.mk c n F P B).outE y k := by
  have ht := h.tab y
  unfold Ga.outE Rg.outE Rg.at'
  simp only
  by_cases e : idx F.id y n < 0
  · rw [if_pos e] at ht
    rw [if_pos e, if_pos (gt_none ht).1]
  rw [if_neg e] at ht
  obtain ⟨g0, g1, g2, g3⟩ := gt_some ht
  rw [if_neg e, if_neg (by rw [g0]; simp), g1, g2]
/-- A flow has other packets, and bytes. -/
theorem Sim.set (hc : COk c n F) (h : Sim c n F x P B) {y : Int} (e : ¬ idx F.id y n < 0) (p b m d : Int) (p0 : 0 ≤ p) (b0 : 0 ≤ b) (b1 : b ≤ F.ca (idx F.id y n).toNat)
    (hm : m = tS P n - P (idx F.id y n).toNat + p) (hd : d = tS B n - B (idx F.id y n).toNat + b) (hm1 : m ≤ c.P) (hd1 : d ≤ c.B) :
    Sim c n F { x with n := m, b := d, T := setT x.M x.T y p b (gtO x.M x.T y) } (putF P (idx F.id y n).toNat p) (putF B (idx F.id y n).toNat b) := by
  have ht := h.tab y
  rw [if_neg e] at ht
  obtain ⟨g0, g1, g2, g3⟩ := gt_some ht
  obtain ⟨l1, l2, l3, l4⟩ := look_some h.ok.2 ht
  obtain ⟨i0, i1, i2⟩ := idx_k e
  have hid : (x.T (fd x.T x.M y)).id = y := by rw [l2]
  have hus : (x.T (fd x.T x.M y)).us = true := by rw [l2]
  have hset : setT x.M x.T y p b (gtO x.M x.T y) = putS x.T (fd x.T x.M y) ⟨y, true, p, b, F.ca (idx F.id y n).toNat⟩ := by
    unfold setT
    rw [hid, g3]
  have pf : ∀ (G : Nat → Int) (v : Int) j, putF G (idx F.id y n).toNat v j = if j = (idx F.id y n).toNat then v else G j := fun _ _ _ => rfl
  rw [hset]
  refine ⟨⟨h.ok.1, free_set h.ok.2 _ _ hus.symm⟩, inv_set h.inv _ _ hus.symm hid.symm, h.eP, h.eB, h.eS, h.eU, ?_, ?_, ?_, ?_, ?_, ?_, ?_, ?_⟩
  · rw [tS_put n i2]; exact hm
  · rw [tS_put n i2]; exact hd
  · intro j hj
    rw [pf]; split
    · exact p0
    · exact h.p0 j hj
  · intro j hj
    rw [pf]; split
    · exact b0
    · exact h.b0 j hj
  · intro j hj
    rw [pf]; split
    · rename_i q; rw [q]; exact b1
    · exact h.b1 j hj
  · rw [tS_put n i2]; omega
  · rw [tS_put n i2]; omega
  · intro z
    show look17 x.M (putS x.T (fd x.T x.M y) _) z = _
    rw [look_set h.ok.2 h.inv _ rfl ht rfl z]
    by_cases q : z = y
    · subst q
      rw [if_pos rfl, if_neg e, pf, pf, if_pos rfl, if_pos rfl]
    · rw [if_neg q, h.tab z]
      by_cases e2 : idx F.id z n < 0
      · rw [if_pos e2, if_pos e2]
      · obtain ⟨j0, j1, j2⟩ := idx_k e2
        have hne : (idx F.id z n).toNat ≠ (idx F.id y n).toNat := by
          intro q2
          have a1 := idx_at (T := F.id) (x := z) j0
          have a2 := idx_at (T := F.id) (x := y) i0
          rw [q2, a2] at a1
          exact q a1.symm
        rw [if_neg e2, if_neg e2, pf, pf, if_neg hne, if_neg hne]
theorem i64_id {a : Int} (h0 : 0 ≤ a) (h1 : a ≤ 100000) : IntKind.wrap IntKind.i64 a = a := w64 rfl (by omega)
theorem u64_id {a : Int} (h0 : 0 ≤ a) (h1 : a ≤ 18446744073709551615) : IntKind.wrap IntKind.u64 a = a := by
  show a % 18446744073709551616 = a
  omega
/-- One packet more, on both sides. -/
theorem Sim.inn (hc : COk c n F) (h : Sim c n F x P B) {y k : Int} (k0 : 0 ≤ k) (k1 : k ≤ 18446744073709551615) (hf : x.fit y k = 0) :
    Sim c n F (x.inn y k) ((Rg.mk c n F P B).put y k).P ((Rg.mk c n F P B).put y k).B := by
  have hr := h.fit hc y k k0 k1
  rw [hf] at hr
  have e := rfit_at hr.symm
  have e : ¬ idx F.id y n < 0 := e
  obtain ⟨i0, i1, i2⟩ := idx_k e
  obtain ⟨s1, s2⟩ := h.sums hc
  have hl := h.left hc
  have hr' := hr.symm
  unfold Rg.fit Rg.at' at hr'
  simp only at hr'
  rw [s1, s2, hl] at hr'
  have b0 := h.b0 _ i2
  have p0 := h.p0 _ i2
  have b1 := h.b1 _ i2
  have c1 := (hc.ca _ i2).2
  have q1 := tS_le h.b0 _ i2
  have q1' := tS_le h.p0 _ i2
  have q2 := h.hb
  have q2' := h.hn
  have q3 := h.bT
  have q3' := h.pT
  have q4 := hc.B1
  have q5 := hc.P1
  split at hr'
  · cases hr'
  split at hr'
  · cases hr'
  rename_i a3
  split at hr'
  · cases hr'
  rename_i a4
  split at hr'
  · cases hr'
  rename_i a5
  have ec : capU (B (idx F.id y n).toNat + k) = B (idx F.id y n).toNat + k := by
    unfold capU
    rw [if_pos (by omega)]
  rw [ec] at a5
  obtain ⟨g1, g2⟩ := h.own y
  have g1 : gtP x.M x.T y = P (idx F.id y n).toNat := g1.trans (if_neg e)
  have g2 : gtB x.M x.T y = B (idx F.id y n).toNat := g2.trans (if_neg e)
  have ep : IntKind.wrap IntKind.i64 (P (idx F.id y n).toNat + 1) = P (idx F.id y n).toNat + 1 := i64_id (by omega) (by omega)
  have eb : IntKind.wrap IntKind.u64 (B (idx F.id y n).toNat + k) = B (idx F.id y n).toNat + k := u64_id (by omega) (by omega)
  have en : IntKind.wrap IntKind.i64 (x.n + 1) = x.n + 1 := i64_id (by have := tS_nn h.p0; omega) (by omega)
  have ed : IntKind.wrap IntKind.u64 (x.b + k) = x.b + k := u64_id (by have := tS_nn h.b0; omega) (by omega)
  unfold Ga.inn Rg.put Rg.chg Rg.at'
  simp only
  rw [g1, g2, ep, eb, en, ed]
  exact h.set hc e _ _ _ _ (by omega) (by omega) (by omega) (by omega) (by omega) (by omega) (by omega)
theorem Sim.inn' (hc : COk c n F) (h : Sim c n F x P B) {y k : Int} (k0 : 0 ≤ k) (k1 : k ≤ 18446744073709551615) :
    Sim c n F (x.inn' y k) ((Rg.mk c n F P B).inn y k).P ((Rg.mk c n F P B).inn y k).B := by
  unfold Ga.inn' Rg.inn
  rw [← h.may hc y k k0 k1]
  split
  · rename_i e; exact h.inn hc k0 k1 (may_fit e)
  · exact h
theorem Sim.lay (hc : COk c n F) (h : Sim c n F x P B) {y k : Int} (k0 : 0 ≤ k) (k1 : k ≤ 18446744073709551615) :
    Sim c n F (x.lay y k) ((Rg.mk c n F P B).lay y k).P ((Rg.mk c n F P B).lay y k).B := by
  unfold Ga.lay Rg.lay
  rw [← h.fit hc y k k0 k1]
  split
  · rename_i e; exact h.inn hc k0 k1 e
  · exact h
theorem Sim.out (hc : COk c n F) (h : Sim c n F x P B) {y k : Int} (k0 : 0 ≤ k) (k1 : k ≤ 18446744073709551615) :
    Sim c n F (x.out y k) ((Rg.mk c n F P B).out y k).P ((Rg.mk c n F P B).out y k).B := by
  unfold Ga.out Rg.out
  rw [← h.outE y k]
  split
  · rename_i e0
    have e1 := e0
    rw [h.outE y k] at e1
    unfold Rg.outE Rg.at' at e1
    simp only at e1
    split at e1
    · cases e1
    rename_i e
    split at e1
    · cases e1
    rename_i e2
    obtain ⟨i0, i1, i2⟩ := idx_k e
    have b0 := h.b0 _ i2
    have p0 := h.p0 _ i2
    have b1 := h.b1 _ i2
    have q1 := tS_le h.b0 _ i2
    have q1' := tS_le h.p0 _ i2
    have q2 := h.hb
    have q2' := h.hn
    have q3 := h.bT
    have q3' := h.pT
    have q4 := hc.B1
    have q5 := hc.P1
    obtain ⟨g1, g2⟩ := h.own y
    have g1 : gtP x.M x.T y = P (idx F.id y n).toNat := g1.trans (if_neg e)
    have g2 : gtB x.M x.T y = B (idx F.id y n).toNat := g2.trans (if_neg e)
    have ep : IntKind.wrap IntKind.i64 (P (idx F.id y n).toNat - 1) = P (idx F.id y n).toNat - 1 := i64_id (by omega) (by omega)
    have eb : IntKind.wrap IntKind.u64 (B (idx F.id y n).toNat - k) = B (idx F.id y n).toNat - k := u64_id (by omega) (by omega)
    have en : IntKind.wrap IntKind.i64 (x.n - 1) = x.n - 1 := i64_id (by omega) (by omega)
    have ed : IntKind.wrap IntKind.u64 (x.b - k) = x.b - k := u64_id (by omega) (by omega)
    unfold Rg.chg Rg.at'
    simp only
    rw [g1, g2, ep, eb, en, ed]
    exact h.set hc e _ _ _ _ (by omega) (by omega) (by omega) (by omega) (by omega) (by omega) (by omega)
  · exact h
end
end Go.Proofs.Ytmhkbepnankopaa
