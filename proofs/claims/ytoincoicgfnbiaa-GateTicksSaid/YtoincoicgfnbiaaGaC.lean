/- gate: Check, always, the document's May. No condition. -/
import Derived.Test.YtoincoicgfnbiaaGaB
namespace Go.Proofs.Ytoincoicgfnbiaa
set_option linter.unusedVariables false
set_option linter.unusedSimpArgs false
open Go.RowKit E
theorem fnCheck (n : Nat) (O S : Nat → Int) : FnOk Try.prog 8 [.nv (.one (.own 0))] [.ro 2 n (gSl O S)] (iA (chk n S)) [.gone] := by
  by_cases h0 : n = 0
  · subst h0
    rw [chk_no (by rw [okN_iff]; omega)]
    exact ck_lo O S
  by_cases h1 : 64 < n
  · rw [chk_no (by rw [okN_iff]; omega)]
    exact ck_hi n O S h1
  rcases first_of (fun k => ¬ spanOk (S k)) n with h | ⟨k, hk, hp, hj⟩
  · have h : ∀ k, k < n → spanOk (S k) := fun k hk => Decidable.not_not.1 (h k hk)
    rw [chk_ok (okN_iff.2 ⟨by omega, h⟩)]
    exact ck_f n O S (by omega) (by omega) (count_loop (P := Try.prog) (n := n) (fun i => mkSt 28 [(13, .nv (.one (.own 0))), (14, iA n), (15, iA i)] [.ro 2 n (gSl O S)]) (by simp) (fun i hi => ck_r n i O S hi (by omega) (h i hi).1 (h i hi).2) (ck_e n O S (by omega)))
  · have hj : ∀ j, j < k → spanOk (S j) := fun j h => Decidable.not_not.1 (hj j h)
    rw [chk_no (fun h => hp ((okN_iff.1 h).2 k hk))]
    refine ck_g n O S (by omega) (by omega) (count_loop (P := Try.prog) (n := k) (fun i => mkSt 28 [(13, .nv (.one (.own 0))), (14, iA n), (15, iA i)] [.ro 2 n (gSl O S)]) (by simp) (fun i hi => ck_r n i O S (by omega) (by omega) (hj i hi).1 (hj i hi).2) ?_)
    by_cases q : S k < 1
    · exact ck_b1 n k O S hk (by omega) q
    · exact ck_b2 n k O S hk (by omega) q (by simp only [spanOk] at hp; omega)
/-- Is a class open in each of the slots? -/
def alwB (O : Nat → Int) (c : Int) : Nat → Bool
  | 0 => true
  | n + 1 => alwB O c n && !(opZ (O n) c)
theorem alwB_iff {O : Nat → Int} {c : Int} : ∀ {n}, alwB O c n = true ↔ ∀ k, k < n → opZ (O k) c = false
  | 0 => by simp [alwB]
  | n + 1 => by
    rw [alwB, Bool.and_eq_true, alwB_iff, Bool.not_eq_true']
    constructor
    · rintro ⟨h1, h2⟩ k hk
      by_cases e : k = n
      · subst e; exact h2
      · exact h1 k (by omega)
    · exact fun h => ⟨fun k hk => h k (by omega), h n (by omega)⟩
theorem fnAlways (n : Nat) (c : Int) (O S : Nat → Int) (hn : n ≤ 9223372036854775807) (hc : 0 ≤ c) : FnOk Try.prog 21 [.nv (.one (.own 0)), iA c] [.ro 2 n (gSl O S)] (bA (alwB O c n)) [.gone] := by
  rcases first_of (fun k => opZ (O k) c = true) n with h | ⟨k, hk, hp, hj⟩
  · have h : ∀ k, k < n → opZ (O k) c = false := fun k hk => Bool.eq_false_iff.2 (h k hk)
    rw [alwB_iff.2 h]
    exact al_f n c O S hn (count_loop (P := Try.prog) (n := n) (fun i => mkSt 20 [(1, iA c), (7, .nv (.one (.own 0))), (8, iA n), (9, iA i)] [.ro 2 n (gSl O S)]) (by simp) (fun i hi => al_r n i c O S hi hn hc (h i hi)) (al_e n c O S hn hc))
  · have hj : ∀ j, j < k → opZ (O j) c = false := fun j h => Bool.eq_false_iff.2 (hj j h)
    rw [show alwB O c n = false from Bool.eq_false_iff.2 (fun h => by rw [alwB_iff.1 h k hk] at hp; cases hp)]
    exact al_g n c O S hn (count_loop (P := Try.prog) (n := k) (fun i => mkSt 20 [(1, iA c), (7, .nv (.one (.own 0))), (8, iA n), (9, iA i)] [.ro 2 n (gSl O S)]) (by simp) (fun i hi => al_r n i c O S (by omega) hn hc (hj i hi)) (al_b n k c O S hk hn hc hp))
theorem fnMay (n : Nat) (O S : Nat → Int) (hn : n ≤ 9223372036854775807) : FnOk Try.prog 7 [.nv (.one (.own 0))] [.ro 2 n (gSl O S)] (bA (okN n S)) [.gone] := by
  rcases first_of (fun k => ¬ spanOk (S k)) n with h | ⟨k, hk, hp, hj⟩
  · have h : ∀ k, k < n → spanOk (S k) := fun k hk => Decidable.not_not.1 (h k hk)
    have l := count_loop (P := Try.prog) (m0 := 1) (c := loopOf Try.f7 0) (n := n) (fun i => mkSt 32 [(0, .nv (.one (.own 0))), (3, iA i)] [.ro 2 n (gSl O S)]) (X := .exit 0) (by simp) (fun i hi => my_r n i O S hi hn (h i hi).1 (h i hi).2) (my_e n O S hn)
    by_cases h0 : n < 1
    · rw [show okN n S = false from Bool.eq_false_iff.2 (by rw [Ne, okN_iff]; omega)]
      exact my_lo n O S h0 l
    by_cases h1 : 64 < n
    · rw [show okN n S = false from Bool.eq_false_iff.2 (by rw [Ne, okN_iff]; omega)]
      exact my_hi n O S (by omega) h1 l
    rw [okN_iff.2 ⟨by omega, h⟩]
    exact my_f n O S (by omega) (by omega) l
  · have hj : ∀ j, j < k → spanOk (S j) := fun j h => Decidable.not_not.1 (hj j h)
    rw [show okN n S = false from Bool.eq_false_iff.2 (fun h => hp ((okN_iff.1 h).2 k hk))]
    refine my_g n O S hn (count_loop (P := Try.prog) (n := k) (fun i => mkSt 32 [(0, .nv (.one (.own 0))), (3, iA i)] [.ro 2 n (gSl O S)]) (by simp) (fun i hi => my_r n i O S (by omega) (by omega) (hj i hi).1 (hj i hi).2) ?_)
    by_cases q : S k < 1
    · exact my_b1 n k O S hk hn q
    · exact my_b2 n k O S hk hn q (by simp only [spanOk] at hp; omega)
def gCheck : List SV → List Seg → Option (CS × List Prop)
  | [.nv (.one a)], mem => match srcOf mem 2 a with
    | some (n, g, _) => some (⟨[.nv (.one (.own 0))], [.ro 2 n (gSl (oOf g) (sOf g))], iA (chk n (sOf g)), [.gone]⟩, [])
    | none => none
  | _, _ => none
theorem spCheck : SpOk Try.prog 8 (.lift gCheck) := by
  intro args mem cs obl h ho
  unfold gCheck at h
  split at h
  · split at h
    · simp only [Option.some.injEq, Prod.mk.injEq] at h
      obtain ⟨rfl, rfl⟩ := h
      exact fnCheck _ _ _
    · cases h
  · cases h
def gAlways : List SV → List Seg → Option (CS × List Prop)
  | [.nv (.one a), .nv (.one (.val (.int .i64 c)))], mem => match srcOf mem 2 a with
    | some (n, g, _) => some (⟨[.nv (.one (.own 0)), iA c], [.ro 2 n (gSl (oOf g) (sOf g))], bA (alwB (oOf g) c n), [.gone]⟩, [n ≤ 9223372036854775807, 0 ≤ c])
    | none => none
  | _, _ => none
theorem spAlways : SpOk Try.prog 21 (.lift gAlways) := by
  intro args mem cs obl h ho
  unfold gAlways at h
  split at h
  · split at h
    · simp only [Option.some.injEq, Prod.mk.injEq] at h
      obtain ⟨rfl, rfl⟩ := h
      exact fnAlways _ _ _ _ ho.1 ho.2.1
    · cases h
  · cases h
def gMay : List SV → List Seg → Option (CS × List Prop)
  | [.nv (.one a)], mem => match srcOf mem 2 a with
    | some (n, g, _) => some (⟨[.nv (.one (.own 0))], [.ro 2 n (gSl (oOf g) (sOf g))], bA (okN n (sOf g)), [.gone]⟩, [n ≤ 9223372036854775807])
    | none => none
  | _, _ => none
theorem spMay : SpOk Try.prog 7 (.lift gMay) := by
  intro args mem cs obl h ho
  unfold gMay at h
  split at h
  · split at h
    · simp only [Option.some.injEq, Prod.mk.injEq] at h
      obtain ⟨rfl, rfl⟩ := h
      exact fnMay _ _ _ ho.1
    · cases h
  · cases h
def Gg1 : List (FuncId × Sp) := (8, .lift gCheck) :: (21, .lift gAlways) :: (7, .lift gMay) :: G0
theorem Gg1_ok : CtxOk Try.prog Gg1 := ctx_cons (enter_of Try.func8 (by kernel_rfl) (by kernel_rfl)) spCheck <|
  ctx_cons (enter_of Try.func21 (by kernel_rfl) (by kernel_rfl)) spAlways <|
  ctx_cons (enter_of Try.func7 (by kernel_rfl) (by kernel_rfl)) spMay G0_ok
end Go.Proofs.Ytoincoicgfnbiaa
