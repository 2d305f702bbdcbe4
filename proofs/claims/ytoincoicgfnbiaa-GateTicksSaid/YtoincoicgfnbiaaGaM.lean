/- gate: the document's Next. No condition. -/
import Derived.Test.YtoincoicgfnbiaaGaL
namespace Go.Proofs.Ytoincoicgfnbiaa
set_option linter.unusedVariables false
set_option linter.unusedSimpArgs false
open Go.RowKit E
theorem stF_all {p : Nat → Bool} : ∀ (f j : Nat), (∀ k, j ≤ k → k < j + f → p k = true) → stF p f j = j + f
  | 0, j, _ => rfl
  | f + 1, j, h => by
    unfold stF
    rw [if_pos (h j (Nat.le_refl _) (by omega)), stF_all f (j + 1) (fun k h1 h2 => h k (by omega) (by omega))]
    omega
/-- Which slot from a time on is the first one that is open for long enough. -/
def nxI (n : Nat) (O S : Nat → Int) (c : Nat) (t q : Int) : Nat := stF (fun i => decide (rSt n O S c (t + tmj n S t i) < q)) (n + 1) 0
def nxV (n : Nat) (O S : Nat → Int) (c : Nat) (t q : Int) : Int := if nxI n O S c t q ≤ n then t + tmj n S t (nxI n O S c t q) else 0
def nxB (n : Nat) (O S : Nat → Int) (c : Nat) (t q : Int) : Bool := decide (nxI n O S c t q ≤ n ∧ t + tmj n S t (nxI n O S c t q) ≤ 9223372036854775808)
def ndQ (need : Int) : Int := if need = 0 then 1 else need
theorem nxI_cases (n : Nat) (O S : Nat → Int) (c : Nat) (t q : Int) : nxI n O S c t q = n + 1 ∧ (∀ i, i ≤ n → rSt n O S c (t + tmj n S t i) < q) ∨
    nxI n O S c t q ≤ n ∧ q ≤ rSt n O S c (t + tmj n S t (nxI n O S c t q)) ∧ ∀ i, i < nxI n O S c t q → rSt n O S c (t + tmj n S t i) < q := by
  rcases first_of (fun i => ¬ rSt n O S c (t + tmj n S t i) < q) (n + 1) with h | ⟨k, hk, hp, hj⟩
  · have h : ∀ i, i < n + 1 → rSt n O S c (t + tmj n S t i) < q := fun i hi => by have := h i hi; omega
    refine .inl ⟨?_, fun i hi => h i (by omega)⟩
    have := stF_all (p := fun i => decide (rSt n O S c (t + tmj n S t i) < q)) (n + 1) 0 (fun k _ hk => decide_eq_true (h k (by omega)))
    rw [Nat.zero_add] at this
    exact this
  · obtain ⟨a1, _, a3, a4⟩ := stF_spec (p := fun i => decide (rSt n O S c (t + tmj n S t i) < q)) (n + 1) 0 ⟨k, by omega, by omega, decide_eq_false hp⟩
    refine .inr ⟨(by unfold nxI; omega), ?_, fun i hi => of_decide_eq_true (a4 i (by omega) hi)⟩
    have := of_decide_eq_false a1
    unfold nxI; omega
theorem fnRNext (n : Nat) (O S : Nat → Int) (c : Nat) (t need : Int) (h : okN n S = true) (hc : c ≤ 7) (hal : alwR O c n = false) (ht : 0 ≤ t) (ht2 : t ≤ 9223372036854775808) : FnOk Try.prog 18 [.nv (.one (.own 0)), iA c, .nv (.one (.val (.int .u64 (t)))), .nv (.one (.val (.int .u64 (need))))] [.ro 2 n (gSl O S)] (.tup [.one (.val (.int .u64 (nxV n O S c t (ndQ need)))), .one (.val (.bool (nxB n O S c t (ndQ need))))]) [.gone] := by
  have hn := (okN_iff.1 h).1
  have hR := round_pos h
  have hb := tmj_bd h t
  have key : ∀ q : Int, (nxI n O S c t q ≤ n → CodeOk Try.prog 1 (.loop (loopOf Try.f18 0)) (mkSt 46 [(0, .nv (.one (.own 0))), (1, iA c), (3, .nv (.one (.val (.int .u64 (q))))), (10, .nv (.one (.val (.int .u64 (t))))), (11, iA 0)] [.ro 2 n (gSl O S)]) .ret (mkSt 46 [(8, .nv (.one (.val (.int .u64 (nxV n O S c t q))))), (9, bA (nxB n O S c t q))] [.ro 2 n (gSl O S)])) ∧ (¬ nxI n O S c t q ≤ n → CodeOk Try.prog 1 (.loop (loopOf Try.f18 0)) (mkSt 46 [(0, .nv (.one (.own 0))), (1, iA c), (3, .nv (.one (.val (.int .u64 (q))))), (10, .nv (.one (.val (.int .u64 (t))))), (11, iA 0)] [.ro 2 n (gSl O S)]) (.exit 0) (mkSt 46 [] [.ro 2 n (gSl O S)])) := by
    intro q
    have hr : ∀ i, i ≤ n → rSt n O S c (t + tmj n S t i) < q → CodeOk Try.prog 1 (loopOf Try.f18 0) (mkSt 46 [(0, .nv (.one (.own 0))), (1, iA c), (3, .nv (.one (.val (.int .u64 (q))))), (10, .nv (.one (.val (.int .u64 (t + tmj n S t i))))), (11, iA i)] [.ro 2 n (gSl O S)]) .normal (mkSt 46 [(0, .nv (.one (.own 0))), (1, iA c), (3, .nv (.one (.val (.int .u64 (q))))), (10, .nv (.one (.val (.int .u64 (t + tmj n S t (i + 1)))))), (11, iA (i + 1 : Nat))] [.ro 2 n (gSl O S)]) := by
      intro i hi hlt
      have b1 := hb i
      have b2 := spn_bd h t i
      refine rx_r n i c O S q (t + tmj n S t i) (t + tmj n S t (i + 1)) hi h (by omega) hc hal (by omega) (by omega) (by omega) (by omega) ?_
      have e : pre S (slt n S (t + tmj n S t i) + 1) - Int.tmod (t + tmj n S t i) (pre S n) = spn n S t i := by
        rw [Int.tmod_eq_emod_of_nonneg (by omega)]
        exact (slt_tmj h t i).2
      have e2 : tmj n S t (i + 1) = tmj n S t i + spn n S t i := rfl
      rw [e, wU64 (a := spn n S t i) rfl (by omega)]
      exact wU64 (by omega) (by omega)
    have e0 : t + tmj n S t 0 = t := by simp [tmj]
    constructor
    · intro hle
      obtain ⟨q1, q2⟩ : q ≤ rSt n O S c (t + tmj n S t (nxI n O S c t q)) ∧ ∀ i, i < nxI n O S c t q → rSt n O S c (t + tmj n S t i) < q := by
        rcases nxI_cases n O S c t q with ⟨e, _⟩ | ⟨_, e⟩
        · omega
        · exact e
      have b1 := hb (nxI n O S c t q)
      have hl := count_loop (P := Try.prog) (m0 := 1) (c := loopOf Try.f18 0) (n := nxI n O S c t q) (fun i => mkSt 46 [(0, .nv (.one (.own 0))), (1, iA c), (3, .nv (.one (.val (.int .u64 (q))))), (10, .nv (.one (.val (.int .u64 (t + tmj n S t i))))), (11, iA i)] [.ro 2 n (gSl O S)]) (X := .ret) (E0 := mkSt 46 [(8, .nv (.one (.val (.int .u64 (nxV n O S c t q))))), (9, bA (nxB n O S c t q))] [.ro 2 n (gSl O S)]) (by simp) (fun i hi => hr i (by omega) (q2 i hi)) (by
        unfold nxV nxB
        rw [if_pos hle]
        exact rx_b n _ c O S q _ 0 hle h (by omega) hc hal (by omega) (by omega) (by omega) _ (decide_eq_decide.2 ⟨fun e => ⟨hle, e⟩, fun e => e.2⟩))
      simp only [e0] at hl
      exact hl
    · intro hle
      have q2 : ∀ i, i ≤ n → rSt n O S c (t + tmj n S t i) < q := by
        rcases nxI_cases n O S c t q with ⟨_, e⟩ | ⟨e, _⟩
        · exact e
        · omega
      have hl := count_loop (P := Try.prog) (m0 := 1) (c := loopOf Try.f18 0) (n := n + 1) (fun i => mkSt 46 [(0, .nv (.one (.own 0))), (1, iA c), (3, .nv (.one (.val (.int .u64 (q))))), (10, .nv (.one (.val (.int .u64 (t + tmj n S t i))))), (11, iA i)] [.ro 2 n (gSl O S)]) (X := .exit 0) (by simp) (fun i hi => hr i (by omega) (q2 i (by omega))) (rx_e n c O S q (t + tmj n S t (n + 1)) (by omega))
      simp only [e0] at hl
      exact hl
  by_cases hle : nxI n O S c t (ndQ need) ≤ n
  · have hl := (key (ndQ need)).1 hle
    unfold ndQ at hl ⊢
    by_cases e : need = 0
    · subst e
      exact rx_g0 n c O S t _ _ hl
    · rw [if_neg e] at hl ⊢
      exact rx_g1 n c O S t _ _ need e hl
  · have hl := (key (ndQ need)).2 hle
    have e1 : nxV n O S c t (ndQ need) = 0 := by unfold nxV; rw [if_neg hle]
    have e2 : nxB n O S c t (ndQ need) = false := by unfold nxB; exact decide_eq_false (fun q => hle q.1)
    rw [e1, e2]
    unfold ndQ at hl
    by_cases e : need = 0
    · subst e
      exact rx_f0 n c O S t hl
    · rw [if_neg e] at hl
      exact rx_f1 n c O S t need e hl
def gRNext : List SV → List Seg → Option (CS × List Prop)
  | [.nv (.one a), .nv (.one (.val (.int .i64 c))), .nv (.one (.val (.int .u64 t))), .nv (.one (.val (.int .u64 need)))], mem => match srcOf mem 2 a with
    | some (n, g, _) => some (⟨[.nv (.one (.own 0)), iA c.toNat, .nv (.one (.val (.int .u64 (t)))), .nv (.one (.val (.int .u64 (need))))], [.ro 2 n (gSl (oOf g) (sOf g))], .tup [.one (.val (.int .u64 (nxV n (oOf g) (sOf g) c.toNat t (ndQ need)))), .one (.val (.bool (nxB n (oOf g) (sOf g) c.toNat t (ndQ need))))], [.gone]⟩, [okN n (sOf g) = true, c.toNat ≤ 7, alwR (oOf g) c.toNat n = false, 0 ≤ t, t ≤ 9223372036854775808])
    | none => none
  | _, _ => none
theorem spRNext : SpOk Try.prog 18 (.lift gRNext) := by
  intro args mem cs obl h ho
  unfold gRNext at h
  split at h
  · split at h
    · simp only [Option.some.injEq, Prod.mk.injEq] at h
      obtain ⟨rfl, rfl⟩ := h
      exact fnRNext _ _ _ _ _ _ ho.1 ho.2.1 ho.2.2.1 ho.2.2.2.1 ho.2.2.2.2.1
    · cases h
  · cases h
def Gg6 : List (FuncId × Sp) := (18, .lift gRNext) :: Gg5
theorem Gg6_ok : CtxOk Try.prog Gg6 := ctx_cons (enter_of Try.func18 (by kernel_rfl) (by kernel_rfl)) spRNext Gg5_ok
end Go.Proofs.Ytoincoicgfnbiaa
