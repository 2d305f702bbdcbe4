/- gate: may, Round, the document's Round. No condition. -/
import Derived.Test.YtoincoicgfnbiaaGaD
namespace Go.Proofs.Ytoincoicgfnbiaa
set_option linter.unusedVariables false
set_option linter.unusedSimpArgs false
open Go.RowKit E
def gmB (n : Nat) (S : Nat → Int) (c : Int) : Bool := okN n S && decide (0 ≤ c ∧ c ≤ 7)
theorem chk_cases (n : Nat) (S : Nat → Int) : okN n S = true ∧ chk n S = 0 ∨ okN n S = false ∧ chk n S = 6 := by
  cases h : okN n S
  · exact .inr ⟨rfl, chk_no (by rw [h]; simp)⟩
  · exact .inl ⟨rfl, chk_ok h⟩
theorem fnGmay (n : Nat) (c : Int) (O S : Nat → Int) : FnOk Try.prog 20 [.nv (.one (.own 0)), iA c] [.ro 2 n (gSl O S)] (bA (gmB n S c)) [.gone] := by
  unfold gmB
  rcases chk_cases n S with ⟨h, hk⟩ | ⟨h, hk⟩ <;> rw [h]
  · by_cases h0 : 0 ≤ c
    · by_cases h7 : c < 8
      · rw [decide_eq_true (by omega)]; exact gm_y n O S c hk h0 h7
      · rw [decide_eq_false (by omega)]; exact gm_hi n O S c hk h0 h7
    · rw [decide_eq_false (by omega)]; exact gm_lo n O S c hk h0
  · exact gm_n n O S c hk
def rndN (n : Nat) (S : Nat → Int) : Int := if okN n S = true then pre S n else 0
theorem pre_rd {n : Nat} {S : Nat → Int} (h : okN n S = true) {i : Nat} (hi : i < n) : 0 ≤ pre S (i + 1) ∧ pre S (i + 1) ≤ 18446744073709551615 := by
  have := pre_bd h (i + 1) (by omega)
  have := (okN_iff.1 h).1
  omega
theorem fnRound (n : Nat) (O S : Nat → Int) : FnOk Try.prog 12 [.nv (.one (.own 0))] [.ro 2 n (gSl O S)] (.nv (.one (.val (.int .u64 (rndN n S))))) [.gone] := by
  unfold rndN
  rcases chk_cases n S with ⟨h, hk⟩ | ⟨h, hk⟩
  · rw [if_pos h]
    have := (okN_iff.1 h).1
    exact rd_f n O S hk (by omega) (count_loop (P := Try.prog) (n := n) (fun i => mkSt 21 [(3, .nv (.one (.val (.int .u64 (pre S i))))), (9, .nv (.one (.own 0))), (10, iA n), (11, iA i)] [.ro 2 n (gSl O S)]) (by simp) (fun i hi => rd_r n i O S hi (by omega) rfl (pre_rd h hi)) (rd_e n O S (by omega)))
  · rw [if_neg (by rw [h]; simp)]
    exact rd_n n O S hk
theorem fnRRound (n : Nat) (O S : Nat → Int) (h : okN n S = true) : FnOk Try.prog 15 [.nv (.one (.own 0))] [.ro 2 n (gSl O S)] (.nv (.one (.val (.int .u64 (pre S n))))) [.gone] := by
  have := (okN_iff.1 h).1
  exact rr_f n O S (by omega) (count_loop (P := Try.prog) (n := n) (fun i => mkSt 19 [(0, .nv (.one (.own 0))), (3, .nv (.one (.val (.int .u64 (pre S i))))), (4, iA i)] [.ro 2 n (gSl O S)]) (by simp) (fun i hi => rr_r n i O S hi (by omega) rfl (pre_rd h hi)) (rr_e n O S (by omega)))
def gGmay : List SV → List Seg → Option (CS × List Prop)
  | [.nv (.one a), .nv (.one (.val (.int .i64 c)))], mem => match srcOf mem 2 a with
    | some (n, g, _) => some (⟨[.nv (.one (.own 0)), iA c], [.ro 2 n (gSl (oOf g) (sOf g))], bA (gmB n (sOf g) c), [.gone]⟩, [])
    | none => none
  | _, _ => none
theorem spGmay : SpOk Try.prog 20 (.lift gGmay) := by
  intro args mem cs obl h ho
  unfold gGmay at h
  split at h
  · split at h
    · simp only [Option.some.injEq, Prod.mk.injEq] at h
      obtain ⟨rfl, rfl⟩ := h
      exact fnGmay _ _ _ _
    · cases h
  · cases h
def gRound : List SV → List Seg → Option (CS × List Prop)
  | [.nv (.one a)], mem => match srcOf mem 2 a with
    | some (n, g, _) => some (⟨[.nv (.one (.own 0))], [.ro 2 n (gSl (oOf g) (sOf g))], .nv (.one (.val (.int .u64 (rndN n (sOf g))))), [.gone]⟩, [])
    | none => none
  | _, _ => none
theorem spRound : SpOk Try.prog 12 (.lift gRound) := by
  intro args mem cs obl h ho
  unfold gRound at h
  split at h
  · split at h
    · simp only [Option.some.injEq, Prod.mk.injEq] at h
      obtain ⟨rfl, rfl⟩ := h
      exact fnRound _ _ _
    · cases h
  · cases h
def gRRound : List SV → List Seg → Option (CS × List Prop)
  | [.nv (.one a)], mem => match srcOf mem 2 a with
    | some (n, g, _) => some (⟨[.nv (.one (.own 0))], [.ro 2 n (gSl (oOf g) (sOf g))], .nv (.one (.val (.int .u64 (pre (sOf g) n)))), [.gone]⟩, [okN n (sOf g) = true])
    | none => none
  | _, _ => none
theorem spRRound : SpOk Try.prog 15 (.lift gRRound) := by
  intro args mem cs obl h ho
  unfold gRRound at h
  split at h
  · split at h
    · simp only [Option.some.injEq, Prod.mk.injEq] at h
      obtain ⟨rfl, rfl⟩ := h
      exact fnRRound _ _ _ ho.1
    · cases h
  · cases h
def Gg2 : List (FuncId × Sp) := (20, .lift gGmay) :: (12, .lift gRound) :: (15, .lift gRRound) :: Gg1
theorem Gg2_ok : CtxOk Try.prog Gg2 := ctx_cons (enter_of Try.func20 (by kernel_rfl) (by kernel_rfl)) spGmay <|
  ctx_cons (enter_of Try.func12 (by kernel_rfl) (by kernel_rfl)) spRound <|
  ctx_cons (enter_of Try.func15 (by kernel_rfl) (by kernel_rfl)) spRRound Gg1_ok
end Go.Proofs.Ytoincoicgfnbiaa
