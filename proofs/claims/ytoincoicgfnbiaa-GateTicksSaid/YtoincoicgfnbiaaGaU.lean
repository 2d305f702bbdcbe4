/- gate: what Stays and Next give is the document's. No condition. -/
import Derived.Test.YtoincoicgfnbiaaGaT
namespace Go.Proofs.Ytoincoicgfnbiaa
set_option linter.unusedVariables false
set_option linter.unusedSimpArgs false
open Go.RowKit E
set_option maxRecDepth 100000 in
theorem op_tab : ∀ o : Fin 256, ∀ c : Fin 8, opB (o.val : Int) (c.val : Int) = isB (o.val : Int) c.val ∧ opZ (o.val : Int) (c.val : Int) = !isB (o.val : Int) c.val := by decide +kernel
theorem op_is {o c : Int} (h : 0 ≤ o ∧ o ≤ 255) (k : 0 ≤ c ∧ c ≤ 7) : opB o c = isB o c.toNat ∧ opZ o c = !isB o c.toNat := by
  have := op_tab ⟨o.toNat, by omega⟩ ⟨c.toNat, by omega⟩
  rw [show ((o.toNat : Nat) : Int) = o by omega, show ((c.toNat : Nat) : Int) = c by omega] at this
  exact this
theorem alw_eq {O : Nat → Int} {c : Int} (hc : 0 ≤ c ∧ c ≤ 7) : ∀ {n}, (∀ k, k < n → 0 ≤ O k ∧ O k ≤ 255) → alwB O c n = alwR O c.toNat n
  | 0, _ => rfl
  | n + 1, h => by
    unfold alwB alwR
    rw [alw_eq hc (fun k hk => h k (by omega)), (op_is (h n (by omega)) hc).2, Bool.not_not]
theorem stF_congr {p p' : Nat → Bool} (h : ∀ j, p j = p' j) : ∀ f j, stF p f j = stF p' f j
  | 0, _ => rfl
  | f + 1, j => by unfold stF; rw [h j, stF_congr h f (j + 1)]
section
variable {n : Nat} {O S : Nat → Int} {c : Int}
theorem opj_eq (hok : okN n S = true) (hc : 0 ≤ c ∧ c ≤ 7) (hO : ∀ k, k < n → 0 ≤ O k ∧ O k ≤ 255) (t : Int) (j : Nat) : opB (O ((slt n S t + j) % n)) c = opj n O S t c.toNat j := by
  have hn := (okN_iff.1 hok).1
  exact (op_is (hO _ (Nat.mod_lt _ (by omega))) hc).1
theorem pSt_eq (hok : okN n S = true) (hc : 0 ≤ c ∧ c ≤ 7) (hO : ∀ k, k < n → 0 ≤ O k ∧ O k ≤ 255) (t : Int) : pSt n O S c t = rSt n O S c.toNat t := by
  unfold pSt rSt
  rw [stF_congr (opj_eq hok hc hO t)]
theorem spn_congr {t u : Int} (h1 : slt n S t = slt n S u) (h2 : lft n S t = lft n S u) (j : Nat) : spn n S t j = spn n S u j := by
  unfold spn; rw [h1, h2]
theorem tmj_congr {t u : Int} (h1 : slt n S t = slt n S u) (h2 : lft n S t = lft n S u) : ∀ j, tmj n S t j = tmj n S u j
  | 0 => rfl
  | j + 1 => by simp only [tmj]; rw [tmj_congr h1 h2 j, spn_congr h1 h2 j]
theorem rSt_congr {c : Nat} {t u : Int} (h1 : slt n S t = slt n S u) (h2 : lft n S t = lft n S u) : rSt n O S c t = rSt n O S c u := by
  unfold rSt
  rw [stF_congr (p' := opj n O S u c) (fun j => by unfold opj; rw [h1]), tmj_congr h1 h2]
theorem spn_shift (hok : okN n S = true) (t : Int) (i j : Nat) : spn n S (t + tmj n S t i) j = spn n S t (i + j) := by
  obtain ⟨h1, h2⟩ := slt_tmj hok t i
  by_cases e : j = 0
  · subst e; unfold spn at h2 ⊢; rw [if_pos rfl, Nat.add_zero]; exact h2
  · unfold spn
    rw [if_neg e, if_neg (by omega), h1, Nat.mod_add_mod, Nat.add_assoc]
theorem opj_shift (hok : okN n S = true) (t : Int) (c i j : Nat) : opj n O S (t + tmj n S t i) c j = opj n O S t c (i + j) := by
  unfold opj
  rw [(slt_tmj hok t i).1, Nat.mod_add_mod, Nat.add_assoc]
theorem tmj_shift (hok : okN n S = true) (t : Int) (i : Nat) : ∀ j, tmj n S (t + tmj n S t i) j = tmj n S t (i + j) - tmj n S t i
  | 0 => by simp [tmj]
  | j + 1 => by
    have : tmj n S t (i + (j + 1)) = tmj n S t (i + j) + spn n S t (i + j) := rfl
    rw [this]
    simp only [tmj]
    rw [tmj_shift hok t i j, spn_shift hok t i j]
    omega
theorem tmj_mono (hok : okN n S = true) (t : Int) : ∀ i j, i ≤ j → tmj n S t i + ((j - i : Nat) : Int) ≤ tmj n S t j
  | i, 0, h => by have : i = 0 := by omega
                  subst this; simp
  | i, j + 1, h => by
    by_cases e : i = j + 1
    · subst e; simp
    · have := tmj_mono hok t i j (by omega)
      have := spn_bd hok t j
      have e2 : tmj n S t (j + 1) = tmj n S t j + spn n S t j := rfl
      omega
/-- The run from slot i on: where it ends, and how long it is. -/
theorem rSt_run (hok : okN n S = true) {c : Nat} (hal : alwR O c n = false) (t : Int) (i : Nat) : ∃ e, i ≤ e ∧ e < i + n ∧ opj n O S t c e = false ∧ (∀ j, i ≤ j → j < e → opj n O S t c j = true) ∧ rSt n O S c (t + tmj n S t i) = tmj n S t e - tmj n S t i := by
  obtain ⟨s1, s2, s3, s4⟩ := stF_spec (p := opj n O S (t + tmj n S t i) c) n 0 (some_shut hok hal _ 0)
  refine ⟨i + stF (opj n O S (t + tmj n S t i) c) n 0, by omega, by omega, ?_, fun j h1 h2 => ?_, ?_⟩
  · rw [← opj_shift hok]; exact s1
  · have := s4 (j - i) (by omega) (by omega)
    rw [opj_shift hok, show i + (j - i) = j by omega] at this
    exact this
  · unfold rSt; rw [tmj_shift hok]
/-- Where the open run that reaches slot k began. -/
def RunAt (n : Nat) (O S : Nat → Int) (t : Int) (c k r : Nat) : Prop := r ≤ k ∧ (∀ j, r ≤ j → j < k → opj n O S t c j = true) ∧ (r = 0 ∨ opj n O S t c (r - 1) = false)
theorem run_uniq {t : Int} {c k r r' : Nat} (h : RunAt n O S t c k r) (h' : RunAt n O S t c k r') : r = r' := by
  rcases Nat.lt_trichotomy r r' with q | q | q
  · rcases h'.2.2 with e | e
    · omega
    · rw [h.2.1 (r' - 1) (by omega) (by have := h'.1; omega)] at e; cases e
  · exact q
  · rcases h.2.2 with e | e
    · omega
    · rw [h'.2.1 (r - 1) (by omega) (by have := h.1; omega)] at e; cases e
theorem nxS_pre (hok : okN n S = true) (hc : 0 ≤ c ∧ c ≤ 7) (hO : ∀ k, k < n → 0 ≤ O k ∧ O k ≤ 255) {t : Int} (ht : 0 ≤ t) (ht2 : t ≤ 9223372036854775808) : ∀ k, k ≤ 2 * n + 1 → ∃ r, RunAt n O S t c.toNat k r ∧ (nxS t (gPre n c t O S k)).now = t + tmj n S t k ∧ (nxS t (gPre n c t O S k)).op = tmj n S t k - tmj n S t r ∧ (r < k → (nxS t (gPre n c t O S k)).fr = t + tmj n S t r)
  | 0, _ => ⟨0, ⟨Nat.le_refl _, fun j h1 h2 => by omega, .inl rfl⟩, by simp [gPre, nxS, tmj], by simp [gPre, nxS, tmj], fun h => by omega⟩
  | k + 1, hk => by
    have hn := (okN_iff.1 hok).1
    obtain ⟨r, hr, h1, h2, h3⟩ := nxS_pre hok hc hO ht ht2 k (by omega)
    have b1 := tmj_bd hok t k
    have b2 := spn_bd hok t k
    have b3 := tmj_mono hok t r k hr.1
    have b4 := tmj_bd hok t r
    have e2 : tmj n S t (k + 1) = tmj n S t k + spn n S t k := rfl
    have eX : (gX n c t O S k).2 = spn n S t k := rfl
    have eO : (gX n c t O S k).1 = opj n O S t c.toNat k := opj_eq hok hc hO t k
    have hw : IntKind.wrap .u64 ((nxS t (gPre n c t O S k)).now + spn n S t k) = t + tmj n S t (k + 1) := wU64 (by omega) (by omega)
    rw [gPre_succ, nxS_snoc]
    unfold Nx.step
    by_cases ho : opj n O S t c.toNat k = true
    · rw [if_pos (by rw [eO]; exact ho)]
      refine ⟨r, ⟨by have := hr.1; omega, fun j q1 q2 => ?_, hr.2.2⟩, by rw [eX]; exact hw, ?_, fun _ => ?_⟩
      · by_cases e : j = k
        · rw [e]; exact ho
        · exact hr.2.1 j q1 (by omega)
      · unfold Nx.sum; rw [eX]; exact wU64 (by omega) (by omega)
      · unfold Nx.frm
        by_cases e : r < k
        · have : (nxS t (gPre n c t O S k)).op ≠ 0 := by omega
          simp only [if_neg this]; exact h3 e
        · have : r = k := by have := hr.1; omega
          subst this
          have : (nxS t (gPre n c t O S r)).op = 0 := by omega
          simp only [if_pos this]; exact h1
    · rw [if_neg (by rw [eO]; exact ho)]
      refine ⟨k + 1, ⟨Nat.le_refl _, fun j q1 q2 => by omega, .inr ?_⟩, by rw [eX]; exact hw, by simp, fun h => by omega⟩
      rw [Nat.add_sub_cancel]; exact Bool.eq_false_iff.2 ho
theorem hit_iff (hok : okN n S = true) (hc : 0 ≤ c ∧ c ≤ 7) (hO : ∀ k, k < n → 0 ≤ O k ∧ O k ≤ 255) {t : Int} (ht : 0 ≤ t) (ht2 : t ≤ 9223372036854775808) (q : Int) {k r : Nat} (hk : k ≤ 2 * n) (hr : RunAt n O S t c.toNat k r) :
    (Nx.hit q (nxS t (gPre n c t O S k)) (gX n c t O S k) = true ↔ opj n O S t c.toNat k = true ∧ q ≤ tmj n S t (k + 1) - tmj n S t r) ∧ (nxS t (gPre n c t O S k)).frm = t + tmj n S t r := by
  have hn := (okN_iff.1 hok).1
  obtain ⟨r', hr', h1, h2, h3⟩ := nxS_pre (c := c) hok hc hO ht ht2 k (by omega)
  obtain rfl := run_uniq hr hr'
  have b1 := tmj_bd hok t k
  have b2 := spn_bd hok t k
  have b3 := tmj_mono hok t r k hr.1
  have b4 := tmj_bd hok t r
  have e2 : tmj n S t (k + 1) = tmj n S t k + spn n S t k := rfl
  have eX : (gX n c t O S k).2 = spn n S t k := rfl
  have eO : (gX n c t O S k).1 = opj n O S t c.toNat k := opj_eq hok hc hO t k
  constructor
  · unfold Nx.hit Nx.sum
    rw [Bool.and_eq_true, decide_eq_true_eq, eO, eX, wU64 (b := tmj n S t (k + 1) - tmj n S t r) (by omega) (by omega)]
  · unfold Nx.frm
    by_cases e : r < k
    · have : (nxS t (gPre n c t O S k)).op ≠ 0 := by omega
      rw [if_neg this]; exact h3 e
    · have : r = k := by have := hr.1; omega
      subst this
      have : (nxS t (gPre n c t O S r)).op = 0 := by omega
      rw [if_pos this]; exact h1
theorem run_ex (hok : okN n S = true) (t : Int) (c : Nat) : ∀ k, ∃ r, RunAt n O S t c k r
  | 0 => ⟨0, Nat.le_refl _, fun j h1 h2 => by omega, .inl rfl⟩
  | k + 1 => by
    obtain ⟨r, h1, h2, h3⟩ := run_ex hok t c k
    by_cases ho : opj n O S t c k = true
    · refine ⟨r, by omega, fun j q1 q2 => ?_, h3⟩
      by_cases e : j = k
      · rw [e]; exact ho
      · exact h2 j q1 (by omega)
    · exact ⟨k + 1, Nat.le_refl _, fun j q1 q2 => by omega, .inr (by rw [Nat.add_sub_cancel]; exact Bool.eq_false_iff.2 ho)⟩
theorem long_run (hok : okN n S = true) {c : Nat} (hal : alwR O c n = false) {t q : Int} {k r : Nat} (hr : RunAt n O S t c k r) (ho : opj n O S t c k = true) (hq : q ≤ tmj n S t (k + 1) - tmj n S t r) : q ≤ rSt n O S c (t + tmj n S t r) := by
  obtain ⟨e, h1, h2, h3, h4, h5⟩ := rSt_run hok hal t r
  rw [h5]
  have : k + 1 ≤ e := by
    rcases Nat.lt_or_ge k e with p | p
    · exact p
    · exfalso
      by_cases e' : e = k
      · rw [e', ho] at h3; cases h3
      · rw [hr.2.1 e h1 (by omega)] at h3; cases h3
  have := tmj_mono hok t (k + 1) e this
  omega
theorem pn_eq (hok : okN n S = true) (hc : 0 ≤ c ∧ c ≤ 7) (hO : ∀ k, k < n → 0 ≤ O k ∧ O k ≤ 255) {t : Int} (ht : 0 ≤ t) (ht2 : t ≤ 9223372036854775808) {q : Int} (hq : 1 ≤ q) (hal : alwR O c.toNat n = false) :
    pnB n c t q O S = nxB n O S c.toNat t q ∧ pnV n c t q O S = if nxB n O S c.toNat t q = true then nxV n O S c.toNat t q else 0 := by
  have hn := (okN_iff.1 hok).1
  rcases nxI_cases n O S c.toNat t q with ⟨hI, hlt⟩ | ⟨hI, hge, hlt⟩
  · -- there is none
    have hno : ∀ k, k < 2 * n + 1 → Nx.hit q (nxS t (gPre n c t O S k)) (gX n c t O S k) = false := by
      intro k hk
      rw [Bool.eq_false_iff]
      intro hh
      obtain ⟨r, hr⟩ := run_ex (O := O) hok t c.toNat k
      obtain ⟨h1, h2⟩ := (hit_iff hok hc hO ht ht2 q (by omega) hr).1.1 hh
      have h3 := long_run hok hal hr h1 h2
      have hrk := hr.1
      by_cases e : r ≤ n
      · have := hlt r e; omega
      · have h4 := hlt (r - n) (by omega)
        have h5 := slt_tmj hok t r
        have h6 := slt_tmj hok t (r - n)
        have e1 : (slt n S t + r) % n = (slt n S t + (r - n)) % n := by
          rw [show slt n S t + r = slt n S t + (r - n) + n by omega, Nat.add_mod_right]
        have e2 : spn n S t r = spn n S t (r - n) := by
          unfold spn; rw [if_neg (by omega), if_neg (by omega), e1]
        rw [rSt_congr (u := t + tmj n S t (r - n)) (by rw [h5.1, h6.1, e1]) (by rw [h5.2, h6.2, e2])] at h3
        omega
    have hK : nxK n c t q O S = 2 * n + 1 := by
      have := stF_all (p := fun k => !Nx.hit q (nxS t (gPre n c t O S k)) (gX n c t O S k)) (2 * n + 1) 0 (fun k _ hk => by
        simp only [hno k (by omega)]; rfl)
      rw [Nat.zero_add] at this
      exact this
    have e1 : pnB n c t q O S = false := by unfold pnB; exact decide_eq_false (fun h => by omega)
    have e2 : nxB n O S c.toNat t q = false := by unfold nxB; exact decide_eq_false (fun h => by omega)
    refine ⟨by rw [e1, e2], ?_⟩
    unfold pnV
    rw [e1, e2]; rfl
  · -- slot I
    generalize hIe : nxI n O S c.toNat t q = I at hI hge hlt
    obtain ⟨e, g1, g2, g3, g4, g5⟩ := rSt_run hok hal t I
    rw [g5] at hge
    have hbd : I = 0 ∨ opj n O S t c.toNat (I - 1) = false := by
      by_cases e0 : I = 0
      · exact .inl e0
      · refine .inr (Bool.eq_false_iff.2 fun ho => ?_)
        have h1 := hlt (I - 1) (by omega)
        obtain ⟨e', f1, f2, f3, f4, f5⟩ := rSt_run hok hal t (I - 1)
        rw [f5] at h1
        have : e ≤ e' := by
          rcases Nat.lt_or_ge e' e with p | p
          · exfalso
            by_cases q1 : e' = I - 1
            · rw [q1, ho] at f3; cases f3
            · rw [g4 e' (by omega) p] at f3; cases f3
          · exact p
        have m1 := tmj_mono hok t e e' this
        have m2 := tmj_mono hok t (I - 1) I (by omega)
        omega
    have hrun : ∀ k, I ≤ k → k ≤ e → RunAt n O S t c.toNat k I := fun k h1 h2 => ⟨h1, fun j q1 q2 => g4 j q1 (by omega), hbd⟩
    have hne : I < e := by
      rcases Nat.lt_or_ge I e with p | p
      · exact p
      · have : I = e := by omega
        subst this; omega
    -- the slot that makes the run long enough
    rcases first_of (fun k => I ≤ k ∧ q ≤ tmj n S t (k + 1) - tmj n S t I) e with hno | ⟨k, hk1, hk2, hk3⟩
    · exfalso
      exact hno (e - 1) (by omega) ⟨by omega, by rw [show e - 1 + 1 = e by omega]; exact hge⟩
    · have hhit : Nx.hit q (nxS t (gPre n c t O S k)) (gX n c t O S k) = true := (hit_iff hok hc hO ht ht2 q (by omega) (hrun k hk2.1 (by omega))).1.2 ⟨g4 k hk2.1 hk1, hk2.2⟩
      have hbef : ∀ i, i < k → Nx.hit q (nxS t (gPre n c t O S i)) (gX n c t O S i) = false := by
        intro i hi
        rw [Bool.eq_false_iff]
        intro hh
        obtain ⟨r, hr⟩ := run_ex (O := O) hok t c.toNat i
        obtain ⟨h1, h2⟩ := (hit_iff hok hc hO ht ht2 q (by omega) hr).1.1 hh
        have h3 := long_run hok hal hr h1 h2
        have hIr : I ≤ r := by
          rcases Nat.lt_or_ge r I with p | p
          · have := hlt r p; omega
          · exact p
        have hri := hr.1
        have := run_uniq hr (hrun i (by omega) (by omega))
        subst this
        exact hk3 i hi ⟨by omega, h2⟩
      have hK : nxK n c t q O S = k := by
        unfold nxK
        refine stF_find _ 0 k (Nat.zero_le _) (by omega) (by rw [hhit]; rfl) (fun i _ hi => ?_)
        simp only [hbef i hi]; rfl
      have hF : nxF n c t q O S = t + tmj n S t I := by
        unfold nxF
        rw [hK]
        exact (hit_iff hok hc hO ht ht2 q (by omega) (hrun k hk2.1 (by omega))).2
      have e1 : pnB n c t q O S = nxB n O S c.toNat t q := by
        unfold pnB nxB
        rw [hK, hF, hIe]
        exact decide_eq_decide.2 ⟨fun h => ⟨hI, h.2⟩, fun h => ⟨by omega, h.2⟩⟩
      refine ⟨e1, ?_⟩
      unfold pnV
      rw [e1]
      by_cases hb : nxB n O S c.toNat t q = true
      · rw [if_pos hb, if_pos hb, hF]
        unfold nxV; rw [hIe, if_pos hI]
      · rw [if_neg hb, if_neg hb]
end
theorem forall2 {P : Nat → Prop} (h0 : P 0) (h1 : P 1) : ∀ i, i < 2 → P i
  | 0, _ => h0
  | 1, _ => h1
/-! as callees -/
def syB (n : Nat) (O S : Nat → Int) (c : Int) : Bool := gmB n S c && !alwB O c n
def syV (n : Nat) (O S : Nat → Int) (c t : Int) : Int := if syB n O S c = true then pSt n O S c t else 0
theorem gmB_spec {n : Nat} {S : Nat → Int} {c : Int} (h : gmB n S c = true) : okN n S = true ∧ 0 ≤ c ∧ c ≤ 7 := by
  unfold gmB at h
  rw [Bool.and_eq_true, decide_eq_true_eq] at h
  exact h
theorem fnStays (n : Nat) (c t : Int) (O S : Nat → Int) (ht : 0 ≤ t) : FnOk Try.prog 9 [.nv (.one (.own 0)), iA c, .nv (.one (.val (.int .u64 (t))))] [.ro 2 n (gSl O S)] (.tup [.one (.val (.int .u64 (syV n O S c t))), .one (.val (.bool (syB n O S c)))]) [.gone] := by
  unfold syV syB
  cases hm : gmB n S c with
  | false => exact sy_n n c t O S hm
  | true =>
    have h := gmB_spec hm
    have hn := (okN_iff.1 h.1).1
    cases ha : alwB O c n with
    | true => exact sy_a n c t O S (by omega) h.2.1 hm ha
    | false => exact sy_long n c t O S hm ha ht
def nnB (n : Nat) (O S : Nat → Int) (c t d : Int) : Bool := gmB n S c && decide (t ≤ 9223372036854775808) && (alwB O c n || pnB n c t (max d 1) O S)
def nnV (n : Nat) (O S : Nat → Int) (c t d : Int) : Int := if nnB n O S c t d = true then (if alwB O c n = true then t else pnV n c t (max d 1) O S) else 0
theorem fnNext (n : Nat) (c t d : Int) (O S : Nat → Int) (ht : 0 ≤ t) : FnOk Try.prog 10 [.nv (.one (.own 0)), iA c, .nv (.one (.val (.int .u64 (t)))), .nv (.one (.val (.int .u64 (d))))] [.ro 2 n (gSl O S)] (.tup [.one (.val (.int .u64 (nnV n O S c t d))), .one (.val (.bool (nnB n O S c t d)))]) [.gone] := by
  unfold nnV nnB
  cases hm : gmB n S c with
  | false => exact nx_n n c t d O S hm
  | true =>
    have h := gmB_spec hm
    have hn := (okN_iff.1 h.1).1
    by_cases ht2 : t > 9223372036854775808
    · rw [decide_eq_false (by omega : ¬ t ≤ 9223372036854775808)]
      exact nx_l n c t d O S hm ht2
    · rw [decide_eq_true (by omega : t ≤ 9223372036854775808)]
      cases ha : alwB O c n with
      | true => exact nx_a n c t d O S (by omega) h.2.1 hm ht2 ha
      | false =>
        have := nx_long n c t d O S hm ha ht ht2 (max d 1) rfl
        have e : pnV n c t (max d 1) O S = if pnB n c t (max d 1) O S = true then pnV n c t (max d 1) O S else 0 := by
          by_cases hb : pnB n c t (max d 1) O S = true
          · rw [if_pos hb]
          · rw [if_neg hb]; unfold pnV; rw [if_neg hb]
        simp only [Bool.true_and, Bool.false_or, Bool.false_eq_true, if_false]
        rw [← e]
        exact this
def gStays : List SV → List Seg → Option (CS × List Prop)
  | [.nv (.one a), .nv (.one (.val (.int .i64 c))), .nv (.one (.val (.int .u64 t)))], mem => match srcOf mem 2 a with
    | some (n, g, _) => some (⟨[.nv (.one (.own 0)), iA c, .nv (.one (.val (.int .u64 (t))))], [.ro 2 n (gSl (oOf g) (sOf g))], .tup [.one (.val (.int .u64 (syV n (oOf g) (sOf g) c t))), .one (.val (.bool (syB n (oOf g) (sOf g) c)))], [.gone]⟩, [0 ≤ t])
    | none => none
  | _, _ => none
theorem spStays : SpOk Try.prog 9 (.lift gStays) := by
  intro args mem cs obl h ho
  unfold gStays at h
  split at h
  · split at h
    · simp only [Option.some.injEq, Prod.mk.injEq] at h
      obtain ⟨rfl, rfl⟩ := h
      exact fnStays _ _ _ _ _ ho.1
    · cases h
  · cases h
def gNext : List SV → List Seg → Option (CS × List Prop)
  | [.nv (.one a), .nv (.one (.val (.int .i64 c))), .nv (.one (.val (.int .u64 t))), .nv (.one (.val (.int .u64 d)))], mem => match srcOf mem 2 a with
    | some (n, g, _) => some (⟨[.nv (.one (.own 0)), iA c, .nv (.one (.val (.int .u64 (t)))), .nv (.one (.val (.int .u64 (d))))], [.ro 2 n (gSl (oOf g) (sOf g))], .tup [.one (.val (.int .u64 (nnV n (oOf g) (sOf g) c t d))), .one (.val (.bool (nnB n (oOf g) (sOf g) c t d)))], [.gone]⟩, [0 ≤ t])
    | none => none
  | _, _ => none
theorem spNext : SpOk Try.prog 10 (.lift gNext) := by
  intro args mem cs obl h ho
  unfold gNext at h
  split at h
  · split at h
    · simp only [Option.some.injEq, Prod.mk.injEq] at h
      obtain ⟨rfl, rfl⟩ := h
      exact fnNext _ _ _ _ _ _ ho.1
    · cases h
  · cases h
def Gg8 : List (FuncId × Sp) := (9, .lift gStays) :: (10, .lift gNext) :: Gg6
theorem Gg8_ok : CtxOk Try.prog Gg8 := ctx_cons (enter_of Try.func9 (by kernel_rfl) (by kernel_rfl)) spStays <|
  ctx_cons (enter_of Try.func10 (by kernel_rfl) (by kernel_rfl)) spNext Gg6_ok
end Go.Proofs.Ytoincoicgfnbiaa
