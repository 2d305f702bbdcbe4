/- gate: the document's Always, Stays. No condition. -/
import Derived.Test.YtoincoicgfnbiaaGaJ
namespace Go.Proofs.Ytoincoicgfnbiaa
set_option linter.unusedVariables false
set_option linter.unusedSimpArgs false
open Go.RowKit E
def alwR (O : Nat → Int) (c : Nat) : Nat → Bool
  | 0 => true
  | n + 1 => alwR O c n && isB (O n) c
theorem alwR_iff {O : Nat → Int} {c : Nat} : ∀ {n}, alwR O c n = true ↔ ∀ k, k < n → isB (O k) c = true
  | 0 => by simp [alwR]
  | n + 1 => by
    rw [alwR, Bool.and_eq_true, alwR_iff]
    constructor
    · rintro ⟨h1, h2⟩ k hk
      by_cases e : k = n
      · subst e; exact h2
      · exact h1 k (by omega)
    · exact fun h => ⟨fun k hk => h k (by omega), h n (by omega)⟩
/-- The first number, of some, for which something is not so. -/
def stF (p : Nat → Bool) : Nat → Nat → Nat
  | 0, j => j
  | f + 1, j => if p j = true then stF p f (j + 1) else j
theorem stF_spec {p : Nat → Bool} : ∀ (f j : Nat), (∃ k, j ≤ k ∧ k < j + f ∧ p k = false) → p (stF p f j) = false ∧ j ≤ stF p f j ∧ stF p f j < j + f ∧ ∀ k, j ≤ k → k < stF p f j → p k = true
  | 0, j, ⟨k, h1, h2, h3⟩ => by omega
  | f + 1, j, ⟨k, h1, h2, h3⟩ => by
    unfold stF
    split
    · rename_i q
      have : k ≠ j := fun e => by rw [e, q] at h3; cases h3
      obtain ⟨a1, a2, a3, a4⟩ := stF_spec f (j + 1) ⟨k, by omega, by omega, h3⟩
      refine ⟨a1, by omega, by omega, fun k hk hk2 => ?_⟩
      by_cases e : k = j
      · rw [e]; exact q
      · exact a4 k (by omega) hk2
    · rename_i q
      exact ⟨Bool.eq_false_iff.2 q, Nat.le_refl _, by omega, fun k h1 h2 => by omega⟩
theorem some_shut {n : Nat} {O S : Nat → Int} (h : okN n S = true) {c : Nat} (hal : alwR O c n = false) (t : Int) (b : Nat) : ∃ k, b ≤ k ∧ k < b + n ∧ opj n O S t c k = false := by
  have hn := (okN_iff.1 h).1
  have h1 := (slt_spec h t).1
  have : ¬ ∀ k, k < n → isB (O k) c = true := fun q => by rw [alwR_iff.2 q] at hal; cases hal
  rcases first_of (fun k => isB (O k) c = false) n with q | ⟨k, hk, hp, _⟩
  · exact (this fun k hk => by have := q k hk; simpa using this).elim
  · unfold opj
    have hb := Nat.mod_lt (slt n S t + b) (show 0 < n by omega)
    have e1 : ∀ d, (slt n S t + (b + d)) % n = ((slt n S t + b) % n + d) % n := fun d => by rw [← Nat.add_assoc, Nat.mod_add_mod]
    by_cases hle : (slt n S t + b) % n ≤ k
    · refine ⟨b + (k - (slt n S t + b) % n), by omega, by omega, ?_⟩
      rw [e1, show (slt n S t + b) % n + (k - (slt n S t + b) % n) = k by omega, Nat.mod_eq_of_lt hk]
      exact hp
    · refine ⟨b + (k + n - (slt n S t + b) % n), by omega, by omega, ?_⟩
      rw [e1, show (slt n S t + b) % n + (k + n - (slt n S t + b) % n) = k + n by omega, Nat.add_mod_right, Nat.mod_eq_of_lt hk]
      exact hp
/-- For how long a class stays open. -/
def rSt (n : Nat) (O S : Nat → Int) (c : Nat) (t : Int) : Int := tmj n S t (stF (opj n O S t c) n 0)
theorem fnRAlways (n : Nat) (O S : Nat → Int) (c : Nat) (h : okN n S = true) (hc : c ≤ 7) : FnOk Try.prog 16 [.nv (.one (.own 0)), iA c] [.ro 2 n (gSl O S)] (bA (alwR O c n)) [.gone] := by
  have hn := (okN_iff.1 h).1
  have hb : ∀ i, i ≤ n → 0 ≤ pre S i ∧ pre S i ≤ 18446744073709551615 := fun i hi => by have := pre_bd h i hi; omega
  have hr : ∀ i, i < n → isB (O i) c = true → CodeOk Try.prog 1 (loopOf Try.f16 0) (mkSt 25 [(0, .nv (.one (.own 0))), (1, iA c), (5, .nv (.one (.val (.int .u64 (pre S i))))), (6, iA i)] [.ro 2 n (gSl O S)]) .normal (mkSt 25 [(0, .nv (.one (.own 0))), (1, iA c), (5, .nv (.one (.val (.int .u64 (pre S (i + 1)))))), (6, iA (i + 1 : Nat))] [.ro 2 n (gSl O S)]) := fun i hi hz =>
    ra_r n i c O S (pre S i) (pre S (i + 1)) hi h (by omega) hc (hb i (by omega)).1 (by rw [(slt_pre h hi).1]; exact hz) (wU64 rfl (hb (i + 1) hi))
  rcases first_of (fun k => isB (O k) c = false) n with q | ⟨k, hk, hp, hj⟩
  · have q : ∀ k, k < n → isB (O k) c = true := fun k hk => by have := q k hk; simpa using this
    rw [alwR_iff.2 q]
    exact ra_f n c O S (count_loop (P := Try.prog) (n := n) (fun i => mkSt 25 [(0, .nv (.one (.own 0))), (1, iA c), (5, .nv (.one (.val (.int .u64 (pre S i))))), (6, iA i)] [.ro 2 n (gSl O S)]) (by simp) (fun i hi => hr i hi (q i hi)) (ra_e n c O S (pre S n) (by omega)))
  · rw [show alwR O c n = false from Bool.eq_false_iff.2 (fun e => by rw [alwR_iff.1 e k hk] at hp; cases hp)]
    exact ra_g n c O S (count_loop (P := Try.prog) (n := k) (fun i => mkSt 25 [(0, .nv (.one (.own 0))), (1, iA c), (5, .nv (.one (.val (.int .u64 (pre S i))))), (6, iA i)] [.ro 2 n (gSl O S)]) (by simp) (fun i hi => hr i (by omega) (by have := hj i hi; simpa using this)) (ra_b n k c O S (pre S k) hk h (by omega) hc (hb k (by omega)).1 (by rw [(slt_pre h hk).1]; exact hp)))
theorem fnRStays (n : Nat) (O S : Nat → Int) (c : Nat) (t : Int) (h : okN n S = true) (hc : c ≤ 7) (hal : alwR O c n = false) (ht : 0 ≤ t) : FnOk Try.prog 17 [.nv (.one (.own 0)), iA c, .nv (.one (.val (.int .u64 (t))))] [.ro 2 n (gSl O S)] (.nv (.one (.val (.int .u64 (rSt n O S c t))))) [.gone] := by
  have hn := (okN_iff.1 h).1
  have hR := round_pos h
  have ha := Int.emod_nonneg t (show pre S n ≠ 0 by omega)
  have ha2 := Int.emod_lt_of_pos t (show 0 < pre S n by omega)
  obtain ⟨s1, s2, s3, s4⟩ := stF_spec (p := opj n O S t c) n 0 (some_shut h hal t 0)
  refine rs_f n c O S t (t % pre S n) (rSt n O S c t) h (by omega) (Int.tmod_eq_emod_of_nonneg ht) ?_
  unfold rSt
  generalize stF (opj n O S t c) n 0 = J at *
  have hs : ∀ j, slt n S (t % pre S n + tmj n S t j) = (slt n S t + j) % n ∧ lft n S (t % pre S n + tmj n S t j) = spn n S t j := fun j => by
    have e : (t % pre S n + tmj n S t j) % pre S n = (t + tmj n S t j) % pre S n := Int.emod_add_emod _ _ _
    rw [(slt_congr e).1, (slt_congr e).2]
    exact slt_tmj h t j
  have hb := tmj_bd h t
  refine count_loop (P := Try.prog) (n := J) (fun j => mkSt 39 [(0, .nv (.one (.own 0))), (1, iA c), (2, .nv (.one (.val (.int .u64 (t % pre S n))))), (7, .nv (.one (.val (.int .u64 (tmj n S t j)))))] [.ro 2 n (gSl O S)]) (by simp) (fun j hj => ?_) ?_
  · have b1 := hb j
    have b2 := spn_bd h t j
    refine rs_r n c O S (t % pre S n) (tmj n S t j) (t % pre S n + tmj n S t j) (tmj n S t (j + 1)) h (by omega) hc (wU64 rfl (by omega)) (by omega) ?_ (by omega) ?_
    · rw [(hs j).1]; exact s4 j (by omega) hj
    · have e : pre S (slt n S (t % pre S n + tmj n S t j) + 1) - Int.tmod (t % pre S n + tmj n S t j) (pre S n) = spn n S t j := by
        rw [Int.tmod_eq_emod_of_nonneg (by omega)]
        exact (hs j).2
      rw [e, wU64 (a := spn n S t j) rfl (by omega)]
      have e2 : tmj n S t (j + 1) = tmj n S t j + spn n S t j := rfl
      exact wU64 e2.symm (by omega)
  · have b1 := hb J
    refine rs_e n c O S (t % pre S n) (tmj n S t J) (t % pre S n + tmj n S t J) h (by omega) hc (wU64 rfl (by omega)) (by omega) ?_
    rw [(hs J).1]; exact s1
def gRAlways : List SV → List Seg → Option (CS × List Prop)
  | [.nv (.one a), .nv (.one (.val (.int .i64 c)))], mem => match srcOf mem 2 a with
    | some (n, g, _) => some (⟨[.nv (.one (.own 0)), iA c.toNat], [.ro 2 n (gSl (oOf g) (sOf g))], bA (alwR (oOf g) c.toNat n), [.gone]⟩, [okN n (sOf g) = true, c.toNat ≤ 7])
    | none => none
  | _, _ => none
theorem spRAlways : SpOk Try.prog 16 (.lift gRAlways) := by
  intro args mem cs obl h ho
  unfold gRAlways at h
  split at h
  · split at h
    · simp only [Option.some.injEq, Prod.mk.injEq] at h
      obtain ⟨rfl, rfl⟩ := h
      exact fnRAlways _ _ _ _ ho.1 ho.2.1
    · cases h
  · cases h
def gRStays : List SV → List Seg → Option (CS × List Prop)
  | [.nv (.one a), .nv (.one (.val (.int .i64 c))), .nv (.one (.val (.int .u64 t)))], mem => match srcOf mem 2 a with
    | some (n, g, _) => some (⟨[.nv (.one (.own 0)), iA c.toNat, .nv (.one (.val (.int .u64 (t))))], [.ro 2 n (gSl (oOf g) (sOf g))], .nv (.one (.val (.int .u64 (rSt n (oOf g) (sOf g) c.toNat t)))), [.gone]⟩, [okN n (sOf g) = true, c.toNat ≤ 7, alwR (oOf g) c.toNat n = false, 0 ≤ t])
    | none => none
  | _, _ => none
theorem spRStays : SpOk Try.prog 17 (.lift gRStays) := by
  intro args mem cs obl h ho
  unfold gRStays at h
  split at h
  · split at h
    · simp only [Option.some.injEq, Prod.mk.injEq] at h
      obtain ⟨rfl, rfl⟩ := h
      exact fnRStays _ _ _ _ _ ho.1 ho.2.1 ho.2.2.1 ho.2.2.2.1
    · cases h
  · cases h
def Gg5 : List (FuncId × Sp) := (16, .lift gRAlways) :: (17, .lift gRStays) :: Gg4
theorem Gg5_ok : CtxOk Try.prog Gg5 := ctx_cons (enter_of Try.func16 (by kernel_rfl) (by kernel_rfl)) spRAlways <|
  ctx_cons (enter_of Try.func17 (by kernel_rfl) (by kernel_rfl)) spRStays Gg4_ok
end Go.Proofs.Ytoincoicgfnbiaa
