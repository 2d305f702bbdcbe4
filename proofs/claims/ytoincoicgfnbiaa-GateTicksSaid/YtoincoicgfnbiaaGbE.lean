/- GateTicks: the walk. No condition. -/
import Derived.Test.YtoincoicgfnbiaaGbD
import Derived.Test.YtoincoicgfnbiaaGaY
namespace Go.Proofs.Ytoincoicgfnbiaa
set_option linter.unusedVariables false
set_option linter.unusedSimpArgs false
open Go.RowKit E
section
variable {n : Nat} {O S : Nat → Int}
theorem tmj_a (h : okN n S = true) (t : Int) : ∀ j, 1 ≤ j → slt n S t + j ≤ n → tmj n S t j = pre S (slt n S t + j) - t % pre S n
  | 0, h1, _ => by omega
  | j + 1, h1, h2 => by
    have e : tmj n S t (j + 1) = tmj n S t j + spn n S t j := rfl
    have e2 : pre S (slt n S t + (j + 1)) = pre S (slt n S t + j) + S (slt n S t + j) := rfl
    by_cases hj : j = 0
    · subst hj
      rw [e]
      show 0 + spn n S t 0 = pre S (slt n S t + 1) - t % pre S n
      have : spn n S t 0 = pre S (slt n S t + 1) - t % pre S n := rfl
      rw [this]; omega
    · have := tmj_a h t j (by omega) (by omega)
      rw [e, this, e2]
      unfold spn
      rw [if_neg hj, Nat.mod_eq_of_lt (by omega)]
      omega
theorem tmj_b (h : okN n S = true) (t : Int) : ∀ i, i ≤ n → tmj n S t (n - slt n S t + i) = pre S n - t % pre S n + pre S i
  | 0, _ => by
    have := (slt_spec h t).1
    have h1 := tmj_a h t (n - slt n S t) (by omega) (by omega)
    rw [show slt n S t + (n - slt n S t) = n by omega] at h1
    rw [Nat.add_zero, h1]; simp [pre]
  | i + 1, hi => by
    have h0 := (slt_spec h t).1
    have h1 := tmj_b h t i (by omega)
    have e : tmj n S t (n - slt n S t + (i + 1)) = tmj n S t (n - slt n S t + i) + spn n S t (n - slt n S t + i) := rfl
    have e2 : pre S (i + 1) = pre S i + S i := rfl
    rw [e, h1, e2]
    unfold spn
    rw [if_neg (by omega), show slt n S t + (n - slt n S t + i) = i + n by omega, Nat.add_mod_right, Nat.mod_eq_of_lt (by omega)]
    omega
theorem tmj_round (h : okN n S = true) (t : Int) : tmj n S t n ≤ pre S n := by
  obtain ⟨h0, h1, h2⟩ := slt_spec h t
  have := tmj_b h t (slt n S t) (by omega)
  rw [show n - slt n S t + slt n S t = n by omega] at this
  omega
theorem slt_in (h : okN n S = true) {t r : Int} (h0 : 0 ≤ r) (h1 : r < lft n S t) : slt n S (t + r) = slt n S t := by
  obtain ⟨a1, a2, a3⟩ := slt_spec h t
  obtain ⟨b1, b2, b3⟩ := slt_spec h (t + r)
  have hR := round_pos h
  have hle := pre_le h (slt n S t + 1) n (by omega) (Nat.le_refl _)
  unfold lft at h1
  have e : (t + r) % pre S n = t % pre S n + r := by
    have e1 : t + r = (t % pre S n + r) + pre S n * (t / pre S n) := by
      have := Int.mul_ediv_add_emod t (pre S n); omega
    rw [e1, Int.add_mul_emod_self_left]
    have := Int.emod_nonneg t (show pre S n ≠ 0 by omega)
    exact Int.emod_eq_of_lt (by omega) (by omega)
  rw [e] at b2 b3
  exact sl_uniq h b1 a1 b2 b3 (by omega) (by omega)
theorem find_slot (h : okN n S = true) (t : Int) {k : Int} (hk : 0 ≤ k) : ∃ j, tmj n S t j ≤ k ∧ k < tmj n S t (j + 1) := by
  have key : ∀ N, k < tmj n S t N → ∃ j, tmj n S t j ≤ k ∧ k < tmj n S t (j + 1) := by
    intro N
    induction N with
    | zero => intro q; simp [tmj] at q; omega
    | succ N ih =>
      intro q
      by_cases c : k < tmj n S t N
      · exact ih c
      · exact ⟨N, by omega, q⟩
  exact key (k.toNat + 1) (by have := tmj_bd h t (k.toNat + 1); omega)
/-- Is the class open at a time? -/
def tkO (n : Nat) (O S : Nat → Int) (c t : Int) : Bool := opB (O (slt n S t)) c
theorem tkO_slot (h : okN n S = true) {c : Int} (hc : 0 ≤ c ∧ c ≤ 7) (hO : ∀ k, k < n → 0 ≤ O k ∧ O k ≤ 255) (t : Int) {k : Int} {j : Nat} (h1 : tmj n S t j ≤ k) (h2 : k < tmj n S t (j + 1)) : tkO n O S c (t + k) = opj n O S t c.toNat j := by
  obtain ⟨e1, e2⟩ := slt_tmj h t j
  have e : tmj n S t (j + 1) = tmj n S t j + spn n S t j := rfl
  have := slt_in h (t := t + tmj n S t j) (r := k - tmj n S t j) (by omega) (by omega)
  rw [show t + tmj n S t j + (k - tmj n S t j) = t + k by omega, e1] at this
  unfold tkO
  rw [this]
  exact opj_eq h hc hO t j
def allT (n : Nat) (O S : Nat → Int) (c t : Int) : Nat → Bool
  | 0 => true
  | k + 1 => allT n O S c t k && tkO n O S c (t + k)
theorem allT_iff {c t : Int} : ∀ {q}, allT n O S c t q = true ↔ ∀ k : Nat, k < q → tkO n O S c (t + k) = true
  | 0 => by simp [allT]
  | q + 1 => by
    rw [allT, Bool.and_eq_true, allT_iff]
    constructor
    · rintro ⟨h1, h2⟩ k hk
      by_cases e : k = q
      · subst e; exact h2
      · exact h1 k (by omega)
    · exact fun h => ⟨fun k hk => h k (by omega), h q (by omega)⟩
section
variable (h : okN n S = true) {c : Int} (hc : 0 ≤ c ∧ c ≤ 7) (hO : ∀ k, k < n → 0 ≤ O k ∧ O k ≤ 255) (hal : alwR O c.toNat n = false) (t : Int)
include h hc hO hal
theorem allT_run {k q : Nat} (hq : 1 ≤ q) (ha : allT n O S c (t + k) q = true) : ∃ r, tmj n S t r ≤ k ∧ (q : Int) ≤ rSt n O S c.toNat (t + tmj n S t r) := by
  rw [allT_iff] at ha
  obtain ⟨j, j1, j2⟩ := find_slot h t (k := (k : Int)) (by omega)
  have ho : opj n O S t c.toNat j = true := by
    rw [← tkO_slot h hc hO t j1 j2]
    have := ha 0 (by omega)
    simpa using this
  obtain ⟨r, hr⟩ := run_ex (O := O) h t c.toNat j
  obtain ⟨e, g1, g2, g3, g4, g5⟩ := rSt_run h hal t r
  have hrj := hr.1
  have m1 := tmj_mono h t r j hrj
  refine ⟨r, by omega, ?_⟩
  rw [g5]
  have hje : j + 1 ≤ e := by
    rcases Nat.lt_or_ge j e with p | p
    · exact p
    · exfalso
      by_cases e' : e = j
      · rw [e', ho] at g3; cases g3
      · rw [hr.2.1 e g1 (by omega)] at g3; cases g3
  have m2 := tmj_mono h t (j + 1) e hje
  rcases Int.lt_or_le (tmj n S t e) (k + q) with p | p
  · exfalso
    have b1 := spn_bd h t e
    have e2 : tmj n S t (e + 1) = tmj n S t e + spn n S t e := rfl
    have b2 := tkO_slot h hc hO t (k := tmj n S t e) (j := e) (Int.le_refl _) (by omega)
    have := ha (tmj n S t e - k).toNat (by omega)
    rw [show t + (k : Int) + (((tmj n S t e - k).toNat : Nat) : Int) = t + tmj n S t e by omega, b2, g3] at this
    cases this
  · omega
theorem allT_at {i q : Nat} (hq : (q : Int) ≤ rSt n O S c.toNat (t + tmj n S t i)) : allT n O S c (t + tmj n S t i) q = true := by
  rw [allT_iff]
  intro k hk
  obtain ⟨e, g1, g2, g3, g4, g5⟩ := rSt_run h hal t i
  rw [g5] at hq
  have b := tmj_bd h t i
  obtain ⟨j, j1, j2⟩ := find_slot h t (k := tmj n S t i + k) (by omega)
  rw [Int.add_assoc, tkO_slot h hc hO t j1 j2]
  refine g4 j ?_ ?_
  · rcases Nat.lt_or_ge j i with p | p
    · have := tmj_mono h t (j + 1) i (by omega); omega
    · exact p
  · rcases Nat.lt_or_ge j e with p | p
    · exact p
    · have := tmj_mono h t e j p; omega
end
theorem none_all (h : okN n S = true) {c : Int} (t : Int) {q : Int} (hn : ∀ i, i ≤ n → rSt n O S c.toNat (t + tmj n S t i) < q) : ∀ r, rSt n O S c.toNat (t + tmj n S t r) < q := by
  have h64 := (okN_iff.1 h).1
  intro r
  induction r using Nat.strongRecOn with
  | _ r ih =>
    by_cases e : r ≤ n
    · exact hn r e
    · have h4 := ih (r - n) (by omega)
      have h5 := slt_tmj h t r
      have h6 := slt_tmj h t (r - n)
      have e1 : (slt n S t + r) % n = (slt n S t + (r - n)) % n := by
        rw [show slt n S t + r = slt n S t + (r - n) + n by omega, Nat.add_mod_right]
      have e2 : spn n S t r = spn n S t (r - n) := by
        unfold spn; rw [if_neg (by omega), if_neg (by omega), e1]
      rw [rSt_congr (u := t + tmj n S t (r - n)) (by rw [h5.1, h6.1, e1]) (by rw [h5.2, h6.2, e2])]
      exact h4
end

/-! the law's loops -/
section
variable {m mo : Nat} {P U : Nat → Int}
theorem ok_sp (hm : 1 ≤ m ∧ m ≤ 12) (hP : ∀ k, k < m → 0 ≤ P k ∧ P k ≤ 255) : okN m (spF P) = true := okN_iff.2 ⟨by omega, fun k hk => by have := spB_bd (hP k hk); exact ⟨this.1, by have : spF P k = spB (P k) := rfl; omega⟩⟩
theorem pre_10 (hP : ∀ k, k < m → 0 ≤ P k ∧ P k ≤ 255) : ∀ i, i ≤ m → pre (spF P) i ≤ 10 * i
  | 0, _ => by simp [pre]
  | i + 1, hi => by
    have := pre_10 hP i (by omega)
    have := spB_bd (hP i (by omega))
    have e : pre (spF P) (i + 1) = pre (spF P) i + spB (P i) := rfl
    omega
theorem tk_in (hm : 1 ≤ m ∧ m ≤ 12) (hP : ∀ k, k < m → 0 ≤ P k ∧ P k ≤ 255) {i k : Nat} (hi : i < m) (h1 : pre (spF P) i ≤ k) (h2 : (k : Int) < pre (spF P) (i + 1)) : tkF m P U k = U i := by
  have hok := ok_sp hm hP
  have := pre_le hok (i + 1) m (by omega) (Nat.le_refl _)
  obtain ⟨a1, a2, a3⟩ := sl_spec (S := spF P) (a := (k : Int)) (n := m) (by omega) (by omega)
  unfold tkF
  rw [sl_uniq hok a1 hi a2 a3 h1 h2]
theorem build_in (hm : 1 ≤ m ∧ m ≤ 12) (hmo : m ≤ mo) (hP : ∀ k, k < m → 0 ≤ P k ∧ P k ≤ 255) (x0 x1 x2 : Int) {i : Nat} (hi : i < m) (K : Nat → Nat) (hK : ∀ i, i ≤ m → (K i : Int) = pre (spF P) i) :
    CodeOk Try.prog 2 (.loop (loopOf Try.f5 1)) (mkSt 207 [(1, .nv (.one (.own 1))), (7, .nv (.one (.val (.int .u8 (x0))))), (8, .nv (.one (.val (.int .u8 (x1))))), (9, .nv (.one (.val (.int .u8 (x2))))), (10, .nv (.one (.own 3))), (11, .nv (.one (.ptr 2 0))), (12, iA i), (51, .nv (.one (.own 0))), (52, iA m), (53, iA i), (71, .nv (.one (.val (.int .u64 (spF P i))))), (72, .nv (.one (.val (.int .u64 ((0 : Nat))))))] [.ro 1 m (gB8 P), .ro 1 mo (gB8 U), .box 43 [.own 4], .row 39 2 (i + 1) (gSl U (spF P)), .row 5 1 (K i) (gB8 (tkF m P U))]) (.exit 2) (mkSt 207 [(1, .nv (.one (.own 1))), (7, .nv (.one (.val (.int .u8 (x0))))), (8, .nv (.one (.val (.int .u8 (x1))))), (9, .nv (.one (.val (.int .u8 (x2))))), (10, .nv (.one (.own 3))), (11, .nv (.one (.ptr 2 0))), (51, .nv (.one (.own 0))), (52, iA m), (53, iA i)] [.ro 1 m (gB8 P), .ro 1 mo (gB8 U), .box 43 [.own 4], .row 39 2 (i + 1) (gSl U (spF P)), .row 5 1 (K (i + 1)) (gB8 (tkF m P U))]) := by
  have hb := spB_bd (hP i hi)
  have e : pre (spF P) (i + 1) = pre (spF P) i + spB (P i) := rfl
  have eF : spF P i = spB (P i) := rfl
  obtain ⟨s, hs⟩ := Int.eq_ofNat_of_zero_le (show 0 ≤ spF P i by omega)
  have k0 := hK i (by omega)
  have k1 := hK (i + 1) (by omega)
  have h10 := pre_10 hP i (by omega)
  have hl := count_loop (P := Try.prog) (m0 := 2) (c := (loopOf Try.f5 1)) (n := s) (fun j => mkSt 207 [(1, .nv (.one (.own 1))), (7, .nv (.one (.val (.int .u8 (x0))))), (8, .nv (.one (.val (.int .u8 (x1))))), (9, .nv (.one (.val (.int .u8 (x2))))), (10, .nv (.one (.own 3))), (11, .nv (.one (.ptr 2 0))), (12, iA i), (51, .nv (.one (.own 0))), (52, iA m), (53, iA i), (71, .nv (.one (.val (.int .u64 (spF P i))))), (72, .nv (.one (.val (.int .u64 (j)))))] [.ro 1 m (gB8 P), .ro 1 mo (gB8 U), .box 43 [.own 4], .row 39 2 (i + 1) (gSl U (spF P)), .row 5 1 (K i + j) (gB8 (tkF m P U))]) (X := .exit 2) (E0 := mkSt 207 [(1, .nv (.one (.own 1))), (7, .nv (.one (.val (.int .u8 (x0))))), (8, .nv (.one (.val (.int .u8 (x1))))), (9, .nv (.one (.val (.int .u8 (x2))))), (10, .nv (.one (.own 3))), (11, .nv (.one (.ptr 2 0))), (51, .nv (.one (.own 0))), (52, iA m), (53, iA i)] [.ro 1 m (gB8 P), .ro 1 mo (gB8 U), .box 43 [.own 4], .row 39 2 (i + 1) (gSl U (spF P)), .row 5 1 (K (i + 1)) (gB8 (tkF m P U))]) (by simp) (fun j hj => bt_r m mo P U x0 x1 x2 i j 0 (K i + j) (K i + (j + 1)) hm.1 hm.2 hmo hi (by omega) (by omega) (by omega) (tk_in hm hP hi (by omega) (by omega)) (by omega))
    (by
      rw [show K (i + 1) = K i + s by omega]
      exact bt_e m mo P U x0 x1 x2 i s (K i + s) hm.1 hm.2 hmo hs)
  exact hl
theorem build_ok (hm : 1 ≤ m ∧ m ≤ 12) (hmo : m ≤ mo) (hP : ∀ k, k < m → 0 ≤ P k ∧ P k ≤ 255) (x0 x1 x2 : Int) (L : Nat) (hL : (L : Int) = pre (spF P) m) :
    CodeOk Try.prog 2 (.loop (loopOf Try.f5 0)) (mkSt 207 [(1, .nv (.one (.own 1))), (7, .nv (.one (.val (.int .u8 (x0))))), (8, .nv (.one (.val (.int .u8 (x1))))), (9, .nv (.one (.val (.int .u8 (x2))))), (10, .nv (.one (.own 3))), (11, .nv (.one (.ptr 2 0))), (51, .nv (.one (.own 0))), (52, iA m), (53, iA (0 : Nat))] [.ro 1 m (gB8 P), .ro 1 mo (gB8 U), .box 43 [.own 4], .row 39 2 (0 : Nat) (gSl U (spF P)), .row 5 1 ((0 : Nat)) (gB8 (tkF m P U))]) (.exit 0) (mkSt 207 [(7, .nv (.one (.val (.int .u8 (x0))))), (8, .nv (.one (.val (.int .u8 (x1))))), (9, .nv (.one (.val (.int .u8 (x2))))), (10, .nv (.one (.own 3))), (11, .nv (.one (.ptr 2 0)))] [.ro 1 m (gB8 P), .ro 1 mo (gB8 U), .box 43 [.own 4], .row 39 2 m (gSl U (spF P)), .row 5 1 L (gB8 (tkF m P U))]) := by
  have hok := ok_sp hm hP
  have hK : ∀ i, i ≤ m → (((pre (spF P) i).toNat : Nat) : Int) = pre (spF P) i := fun i hi => by
    have := pre_bd hok i hi; omega
  have hLm : (pre (spF P) m).toNat = L := by have := hK m (Nat.le_refl _); omega
  have hl := count_loop (P := Try.prog) (m0 := 2) (c := (loopOf Try.f5 0)) (n := m) (fun i => mkSt 207 [(1, .nv (.one (.own 1))), (7, .nv (.one (.val (.int .u8 (x0))))), (8, .nv (.one (.val (.int .u8 (x1))))), (9, .nv (.one (.val (.int .u8 (x2))))), (10, .nv (.one (.own 3))), (11, .nv (.one (.ptr 2 0))), (51, .nv (.one (.own 0))), (52, iA m), (53, iA i)] [.ro 1 m (gB8 P), .ro 1 mo (gB8 U), .box 43 [.own 4], .row 39 2 i (gSl U (spF P)), .row 5 1 ((pre (spF P) i).toNat) (gB8 (tkF m P U))]) (X := .exit 0) (E0 := mkSt 207 [(7, .nv (.one (.val (.int .u8 (x0))))), (8, .nv (.one (.val (.int .u8 (x1))))), (9, .nv (.one (.val (.int .u8 (x2))))), (10, .nv (.one (.own 3))), (11, .nv (.one (.ptr 2 0)))] [.ro 1 m (gB8 P), .ro 1 mo (gB8 U), .box 43 [.own 4], .row 39 2 m (gSl U (spF P)), .row 5 1 L (gB8 (tkF m P U))]) (by simp) (fun i hi => bo_r m mo P U x0 x1 x2 i _ _ hm.1 hm.2 hmo hi (by
        have hb := spB_bd (hP i hi)
        have eF : spF P i = spB (P i) := rfl
        have h0 := hP i hi
        have := Int.tmod_eq_emod_of_nonneg (b := 10) h0.1
        unfold spB at eF
        rw [wU64 (a := Int.tmod (P i) 10) rfl (by omega), eF]
        exact wU64 rfl (by omega)) (build_in hm hmo hP x0 x1 x2 hi (fun i => (pre (spF P) i).toNat) hK))
    (by rw [hLm]; exact bo_e m mo P U x0 x1 x2 L hm.1 hm.2 hmo)
  exact hl
theorem tick_eq (hm : 1 ≤ m ∧ m ≤ 12) (hP : ∀ k, k < m → 0 ≤ P k ∧ P k ≤ 255) {L : Nat} (hL : (L : Int) = pre (spF P) m) {t : Int} (ht : 0 ≤ t) : tkF m P U (Int.tmod t (L : Int)).toNat = U (slt m (spF P) t) := by
  have hR := round_pos (ok_sp hm hP)
  have e := Int.tmod_eq_emod_of_nonneg (b := (L : Int)) ht
  have := Int.emod_nonneg t (show (L : Int) ≠ 0 by omega)
  unfold tkF slt
  rw [e, ← hL, show (((t % (L : Int)).toNat : Nat) : Int) = t % (L : Int) by omega]
end
structure Gt (m mo L : Nat) (P U : Nat → Int) (C F W : Int) : Prop where
  m1 : 1 ≤ m
  m2 : m ≤ 12
  mo : m ≤ mo
  L1 : 1 ≤ L
  L2 : L ≤ 120
  C0 : 0 ≤ C
  C7 : C ≤ 7
  F0 : 0 ≤ F
  F2 : F ≤ 255
  W1 : 1 ≤ W
  W2 : W ≤ 30
  hP : ∀ k, k < m → 0 ≤ P k ∧ P k ≤ 255
  hU : ∀ k, k < m → 0 ≤ U k ∧ U k ≤ 255
  hL : (L : Int) = pre (spF P) m
section
variable {m mo L : Nat} {P U : Nat → Int} {C F W : Int} (g : Gt m mo L P U C F W)
include g
theorem Gt.ok : okN m (spF P) = true := ok_sp ⟨g.m1, g.m2⟩ g.hP
theorem lp3 : CodeOk Try.prog 2 (.loop (loopOf Try.f5 2)) (mkSt 207 [(10, .nv (.one (.own 3))), (11, .nv (.one (.ptr 2 0))), (15, .nv (.one (.ptr 5 0))), (16, iA F), (17, iA W), (18, .nv (.one (.clo 19 [.ptr 2 0, .ptr 5 0]))), (95, iA (2 * L : Nat)), (96, iA (0 : Nat))] [.ro 1 m (gB8 P), .ro 1 mo (gB8 U), .box 43 [.own 4], .row 39 2 m (gSl U (spF P)), .row 5 1 L (gB8 (tkF m P U)), .box 3 [.val (.int .i64 C)]]) (.exit 4) (mkSt 207 [(10, .nv (.one (.own 3))), (11, .nv (.one (.ptr 2 0))), (15, .nv (.one (.ptr 5 0))), (16, iA F), (17, iA W), (18, .nv (.one (.clo 19 [.ptr 2 0, .ptr 5 0])))] [.ro 1 m (gB8 P), .ro 1 mo (gB8 U), .box 43 [.own 4], .row 39 2 m (gSl U (spF P)), .row 5 1 L (gB8 (tkF m P U)), .box 3 [.val (.int .i64 C)]]) := by
  refine count_loop (P := Try.prog) (m0 := 2) (c := (loopOf Try.f5 2)) (n := 2 * L) (fun t => mkSt 207 [(10, .nv (.one (.own 3))), (11, .nv (.one (.ptr 2 0))), (15, .nv (.one (.ptr 5 0))), (16, iA F), (17, iA W), (18, .nv (.one (.clo 19 [.ptr 2 0, .ptr 5 0]))), (95, iA (2 * L : Nat)), (96, iA t)] [.ro 1 m (gB8 P), .ro 1 mo (gB8 U), .box 43 [.own 4], .row 39 2 m (gSl U (spF P)), .row 5 1 L (gB8 (tkF m P U)), .box 3 [.val (.int .i64 C)]]) (by simp) (fun t ht => ?_) (l3_e m mo L P U C F W g.m1 g.m2 g.L1 g.L2 g.C0 g.C7 g.F0 g.F2 g.W1 g.W2)
  have e := Int.tmod_eq_emod_of_nonneg (a := (t : Int)) (b := (L : Int)) (by omega)
  have hl := g.L1
  have h0 := Int.emod_nonneg (t : Int) (show (L : Int) ≠ 0 by omega)
  have h1 := Int.emod_lt_of_pos (t : Int) (show (0 : Int) < L by omega)
  refine l3_r m mo L P U C F W g.m1 g.m2 g.L1 g.L2 g.C0 g.C7 g.F0 g.F2 g.W1 g.W2 t (Int.tmod t L).toNat ht (by omega) (by omega) ?_
  rw [opnN_ok g.ok, tick_eq ⟨g.m1, g.m2⟩ g.hP g.hL (by omega)]
theorem lp5 (t : Nat) (ht : t ≤ 1000) : CodeOk Try.prog 2 (.loop (loopOf Try.f5 4)) (mkSt 207 [(10, .nv (.one (.own 3))), (11, .nv (.one (.ptr 2 0))), (15, .nv (.one (.ptr 5 0))), (16, iA F), (17, iA W), (18, .nv (.one (.clo 19 [.ptr 2 0, .ptr 5 0]))), (20, iA (-1)), (21, iA t), (22, bA true), (126, iA W), (127, iA (0 : Nat))] [.ro 1 m (gB8 P), .ro 1 mo (gB8 U), .box 43 [.own 4], .row 39 2 m (gSl U (spF P)), .row 5 1 L (gB8 (tkF m P U)), .box 3 [.val (.int .i64 C)]]) (.exit 8) (mkSt 207 [(10, .nv (.one (.own 3))), (11, .nv (.one (.ptr 2 0))), (15, .nv (.one (.ptr 5 0))), (16, iA F), (17, iA W), (18, .nv (.one (.clo 19 [.ptr 2 0, .ptr 5 0]))), (20, iA (-1)), (21, iA t), (22, bA (allT m U (spF P) C t W.toNat))] [.ro 1 m (gB8 P), .ro 1 mo (gB8 U), .box 43 [.own 4], .row 39 2 m (gSl U (spF P)), .row 5 1 L (gB8 (tkF m P U)), .box 3 [.val (.int .i64 C)]]) := by
  have hW1 := g.W1
  have hl := count_loop (P := Try.prog) (m0 := 2) (c := (loopOf Try.f5 4)) (n := W.toNat) (fun k => mkSt 207 [(10, .nv (.one (.own 3))), (11, .nv (.one (.ptr 2 0))), (15, .nv (.one (.ptr 5 0))), (16, iA F), (17, iA W), (18, .nv (.one (.clo 19 [.ptr 2 0, .ptr 5 0]))), (20, iA (-1)), (21, iA t), (22, bA (allT m U (spF P) C t k)), (126, iA W), (127, iA k)] [.ro 1 m (gB8 P), .ro 1 mo (gB8 U), .box 43 [.own 4], .row 39 2 m (gSl U (spF P)), .row 5 1 L (gB8 (tkF m P U)), .box 3 [.val (.int .i64 C)]]) (X := .exit 8) (E0 := mkSt 207 [(10, .nv (.one (.own 3))), (11, .nv (.one (.ptr 2 0))), (15, .nv (.one (.ptr 5 0))), (16, iA F), (17, iA W), (18, .nv (.one (.clo 19 [.ptr 2 0, .ptr 5 0]))), (20, iA (-1)), (21, iA t), (22, bA (allT m U (spF P) C t W.toNat))] [.ro 1 m (gB8 P), .ro 1 mo (gB8 U), .box 43 [.own 4], .row 39 2 m (gSl U (spF P)), .row 5 1 L (gB8 (tkF m P U)), .box 3 [.val (.int .i64 C)]]) (by simp) (fun k hk => ?_) (l5_e m mo L P U C F W g.m1 g.m2 g.L1 g.L2 g.C0 g.C7 g.F0 g.F2 g.W1 g.W2 t W.toNat _ (by omega))
  · exact hl
  · show CodeOk Try.prog 2 (loopOf Try.f5 4) (mkSt 207 [(10, .nv (.one (.own 3))), (11, .nv (.one (.ptr 2 0))), (15, .nv (.one (.ptr 5 0))), (16, iA F), (17, iA W), (18, .nv (.one (.clo 19 [.ptr 2 0, .ptr 5 0]))), (20, iA (-1)), (21, iA t), (22, bA (allT m U (spF P) C t k)), (126, iA W), (127, iA k)] [.ro 1 m (gB8 P), .ro 1 mo (gB8 U), .box 43 [.own 4], .row 39 2 m (gSl U (spF P)), .row 5 1 L (gB8 (tkF m P U)), .box 3 [.val (.int .i64 C)]]) .normal (mkSt 207 [(10, .nv (.one (.own 3))), (11, .nv (.one (.ptr 2 0))), (15, .nv (.one (.ptr 5 0))), (16, iA F), (17, iA W), (18, .nv (.one (.clo 19 [.ptr 2 0, .ptr 5 0]))), (20, iA (-1)), (21, iA t), (22, bA (allT m U (spF P) C t k && tkO m U (spF P) C (t + k))), (126, iA W), (127, iA (k + 1 : Nat))] [.ro 1 m (gB8 P), .ro 1 mo (gB8 U), .box 43 [.own 4], .row 39 2 m (gSl U (spF P)), .row 5 1 L (gB8 (tkF m P U)), .box 3 [.val (.int .i64 C)]])
    cases hb : allT m U (spF P) C t k with
    | true =>
      rw [Bool.true_and]
      refine l5_t m mo L P U C F W g.m1 g.m2 g.L1 g.L2 g.C0 g.C7 g.F0 g.F2 g.W1 g.W2 t k _ (by omega) ht ?_
      rw [tick_eq ⟨g.m1, g.m2⟩ g.hP g.hL (by omega)]
      unfold tkO
      rw [show (((t + k : Nat)) : Int) = (t : Int) + k by omega]
    | false =>
      rw [Bool.false_and]
      exact l5_f m mo L P U C F W g.m1 g.m2 g.L1 g.L2 g.C0 g.C7 g.F0 g.F2 g.W1 g.W2 t k (by omega) ht
theorem lp4_none (hn : ∀ t : Nat, F ≤ t → (t : Int) ≤ F + 2 * L → allT m U (spF P) C t W.toNat = false) : CodeOk Try.prog 2 (.loop (loopOf Try.f5 3)) (mkSt 207 [(10, .nv (.one (.own 3))), (11, .nv (.one (.ptr 2 0))), (15, .nv (.one (.ptr 5 0))), (16, iA F), (17, iA W), (18, .nv (.one (.clo 19 [.ptr 2 0, .ptr 5 0]))), (20, iA (-1)), (21, iA F)] [.ro 1 m (gB8 P), .ro 1 mo (gB8 U), .box 43 [.own 4], .row 39 2 m (gSl U (spF P)), .row 5 1 L (gB8 (tkF m P U)), .box 3 [.val (.int .i64 C)]]) (.exit 6) (mkSt 207 [(10, .nv (.one (.own 3))), (11, .nv (.one (.ptr 2 0))), (15, .nv (.one (.ptr 5 0))), (16, iA F), (17, iA W), (18, .nv (.one (.clo 19 [.ptr 2 0, .ptr 5 0]))), (20, iA (-1))] [.ro 1 m (gB8 P), .ro 1 mo (gB8 U), .box 43 [.own 4], .row 39 2 m (gSl U (spF P)), .row 5 1 L (gB8 (tkF m P U)), .box 3 [.val (.int .i64 C)]]) := by
  have := g.F0; have := g.F2; have := g.L2
  obtain ⟨f, rfl⟩ := Int.eq_ofNat_of_zero_le g.F0
  have hl := count_loop (P := Try.prog) (m0 := 2) (c := (loopOf Try.f5 3)) (n := 2 * L + 1) (fun i => mkSt 207 [(10, .nv (.one (.own 3))), (11, .nv (.one (.ptr 2 0))), (15, .nv (.one (.ptr 5 0))), (16, iA (f : Int)), (17, iA W), (18, .nv (.one (.clo 19 [.ptr 2 0, .ptr 5 0]))), (20, iA (-1)), (21, iA (f + i : Nat))] [.ro 1 m (gB8 P), .ro 1 mo (gB8 U), .box 43 [.own 4], .row 39 2 m (gSl U (spF P)), .row 5 1 L (gB8 (tkF m P U)), .box 3 [.val (.int .i64 C)]]) (X := .exit 6) (E0 := mkSt 207 [(10, .nv (.one (.own 3))), (11, .nv (.one (.ptr 2 0))), (15, .nv (.one (.ptr 5 0))), (16, iA (f : Int)), (17, iA W), (18, .nv (.one (.clo 19 [.ptr 2 0, .ptr 5 0]))), (20, iA (-1))] [.ro 1 m (gB8 P), .ro 1 mo (gB8 U), .box 43 [.own 4], .row 39 2 m (gSl U (spF P)), .row 5 1 L (gB8 (tkF m P U)), .box 3 [.val (.int .i64 C)]]) (by simp) (fun i hi => ?_) (l4_e m mo L P U C f W g.m1 g.m2 g.L1 g.L2 g.C0 g.C7 g.F0 g.F2 g.W1 g.W2 _ (by omega))
  · exact hl
  · refine l4_n m mo L P U C f W g.m1 g.m2 g.L1 g.L2 g.C0 g.C7 g.F0 g.F2 g.W1 g.W2 (f + i) (by omega) ?_
    have := lp5 g (f + i) (by omega)
    rw [hn (f + i) (by omega) (by omega)] at this
    exact this
theorem lp4_some (t0 : Nat) (h1 : F ≤ t0) (h2 : (t0 : Int) ≤ F + 2 * L) (ha : allT m U (spF P) C t0 W.toNat = true) (hn : ∀ t : Nat, F ≤ t → t < t0 → allT m U (spF P) C t W.toNat = false) : CodeOk Try.prog 2 (.loop (loopOf Try.f5 3)) (mkSt 207 [(10, .nv (.one (.own 3))), (11, .nv (.one (.ptr 2 0))), (15, .nv (.one (.ptr 5 0))), (16, iA F), (17, iA W), (18, .nv (.one (.clo 19 [.ptr 2 0, .ptr 5 0]))), (20, iA (-1)), (21, iA F)] [.ro 1 m (gB8 P), .ro 1 mo (gB8 U), .box 43 [.own 4], .row 39 2 m (gSl U (spF P)), .row 5 1 L (gB8 (tkF m P U)), .box 3 [.val (.int .i64 C)]]) (.exit 6) (mkSt 207 [(10, .nv (.one (.own 3))), (11, .nv (.one (.ptr 2 0))), (15, .nv (.one (.ptr 5 0))), (16, iA F), (17, iA W), (18, .nv (.one (.clo 19 [.ptr 2 0, .ptr 5 0]))), (20, iA t0)] [.ro 1 m (gB8 P), .ro 1 mo (gB8 U), .box 43 [.own 4], .row 39 2 m (gSl U (spF P)), .row 5 1 L (gB8 (tkF m P U)), .box 3 [.val (.int .i64 C)]]) := by
  have := g.F0; have := g.F2; have := g.L2
  obtain ⟨f, rfl⟩ := Int.eq_ofNat_of_zero_le g.F0
  obtain ⟨d, rfl⟩ : ∃ d, t0 = f + d := ⟨t0 - f, by omega⟩
  have hl := count_loop (P := Try.prog) (m0 := 2) (c := (loopOf Try.f5 3)) (n := d + 1) (fun i => mkSt 207 [(10, .nv (.one (.own 3))), (11, .nv (.one (.ptr 2 0))), (15, .nv (.one (.ptr 5 0))), (16, iA (f : Int)), (17, iA W), (18, .nv (.one (.clo 19 [.ptr 2 0, .ptr 5 0]))), (20, iA (if i ≤ d then (-1) else ((f + d : Nat) : Int))), (21, iA (f + i : Nat))] [.ro 1 m (gB8 P), .ro 1 mo (gB8 U), .box 43 [.own 4], .row 39 2 m (gSl U (spF P)), .row 5 1 L (gB8 (tkF m P U)), .box 3 [.val (.int .i64 C)]]) (X := .exit 6) (E0 := mkSt 207 [(10, .nv (.one (.own 3))), (11, .nv (.one (.ptr 2 0))), (15, .nv (.one (.ptr 5 0))), (16, iA (f : Int)), (17, iA W), (18, .nv (.one (.clo 19 [.ptr 2 0, .ptr 5 0]))), (20, iA (f + d : Nat))] [.ro 1 m (gB8 P), .ro 1 mo (gB8 U), .box 43 [.own 4], .row 39 2 m (gSl U (spF P)), .row 5 1 L (gB8 (tkF m P U)), .box 3 [.val (.int .i64 C)]]) (by simp) (fun i hi => ?_) ?_
  · exact hl
  · simp only [if_pos (show i ≤ d by omega)]
    by_cases e : i = d
    · subst e
      simp only [if_neg (show ¬ i + 1 ≤ i by omega)]
      refine l4_y m mo L P U C f W g.m1 g.m2 g.L1 g.L2 g.C0 g.C7 g.F0 g.F2 g.W1 g.W2 (f + i) (by omega) ?_
      have := lp5 g (f + i) (by omega)
      rw [ha] at this
      exact this
    · simp only [if_pos (show i + 1 ≤ d by omega)]
      refine l4_n m mo L P U C f W g.m1 g.m2 g.L1 g.L2 g.C0 g.C7 g.F0 g.F2 g.W1 g.W2 (f + i) (by omega) ?_
      have := lp5 g (f + i) (by omega)
      rw [hn (f + i) (by omega) (by omega)] at this
      exact this
  · simp only [if_neg (show ¬ d + 1 ≤ d by omega)]
    by_cases e : ((f + d + 1 : Nat) : Int) ≤ f + 2 * L
    · exact l4_f m mo L P U C f W g.m1 g.m2 g.L1 g.L2 g.C0 g.C7 g.F0 g.F2 g.W1 g.W2 (f + d + 1) (f + d) e
    · exact l4_g m mo L P U C f W g.m1 g.m2 g.L1 g.L2 g.C0 g.C7 g.F0 g.F2 g.W1 g.W2 (f + d + 1) (f + d) (by omega)
theorem lp6 (V : Int) (hV0 : 0 ≤ V) (hV : V ≤ 120) (ha : ∀ k : Nat, (k : Int) < V → tkO m U (spF P) C (F + k) = true) : CodeOk Try.prog 2 (.loop (loopOf Try.f5 5)) (mkSt 207 [(10, .nv (.one (.own 3))), (11, .nv (.one (.ptr 2 0))), (15, .nv (.one (.ptr 5 0))), (16, iA F), (17, iA W), (18, .nv (.one (.clo 19 [.ptr 2 0, .ptr 5 0]))), (26, .nv (.one (.val (.int .u64 (V))))), (185, iA V), (186, iA (0 : Nat))] [.ro 1 m (gB8 P), .ro 1 mo (gB8 U), .box 43 [.own 4], .row 39 2 m (gSl U (spF P)), .row 5 1 L (gB8 (tkF m P U)), .box 3 [.val (.int .i64 C)]]) (.exit 10) (mkSt 207 [(10, .nv (.one (.own 3))), (11, .nv (.one (.ptr 2 0))), (15, .nv (.one (.ptr 5 0))), (16, iA F), (17, iA W), (18, .nv (.one (.clo 19 [.ptr 2 0, .ptr 5 0]))), (26, .nv (.one (.val (.int .u64 (V)))))] [.ro 1 m (gB8 P), .ro 1 mo (gB8 U), .box 43 [.own 4], .row 39 2 m (gSl U (spF P)), .row 5 1 L (gB8 (tkF m P U)), .box 3 [.val (.int .i64 C)]]) := by
  have := g.F0
  refine count_loop (P := Try.prog) (m0 := 2) (c := (loopOf Try.f5 5)) (n := V.toNat) (fun k => mkSt 207 [(10, .nv (.one (.own 3))), (11, .nv (.one (.ptr 2 0))), (15, .nv (.one (.ptr 5 0))), (16, iA F), (17, iA W), (18, .nv (.one (.clo 19 [.ptr 2 0, .ptr 5 0]))), (26, .nv (.one (.val (.int .u64 (V))))), (185, iA V), (186, iA k)] [.ro 1 m (gB8 P), .ro 1 mo (gB8 U), .box 43 [.own 4], .row 39 2 m (gSl U (spF P)), .row 5 1 L (gB8 (tkF m P U)), .box 3 [.val (.int .i64 C)]]) (by simp) (fun k hk => ?_) (l6_e m mo L P U C F W g.m1 g.m2 g.L1 g.L2 g.C0 g.C7 g.F0 g.F2 g.W1 g.W2 V V.toNat (by omega))
  refine l6_r m mo L P U C F W g.m1 g.m2 g.L1 g.L2 g.C0 g.C7 g.F0 g.F2 g.W1 g.W2 V k (by omega) hV ?_
  rw [tick_eq ⟨g.m1, g.m2⟩ g.hP g.hL (by omega)]
  exact ha k (by omega)
theorem Gt.gm : gmB m (spF P) C = true := by
  unfold gmB
  rw [g.ok, decide_eq_true ⟨g.C0, g.C7⟩]; rfl
end
end Go.Proofs.Ytoincoicgfnbiaa
