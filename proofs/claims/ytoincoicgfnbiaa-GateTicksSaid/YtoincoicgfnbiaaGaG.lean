/- gate: spot, the document's Slot. No condition. -/
import Derived.Test.YtoincoicgfnbiaaGaF
namespace Go.Proofs.Ytoincoicgfnbiaa
set_option linter.unusedVariables false
set_option linter.unusedSimpArgs false
open Go.RowKit E
/-- How long the slot of a time goes on. -/
def lft (n : Nat) (S : Nat → Int) (t : Int) : Int := pre S (slt n S t + 1) - t % pre S n
theorem rndN_ok {n : Nat} {S : Nat → Int} (h : okN n S = true) : rndN n S = pre S n := by unfold rndN; rw [if_pos h]
theorem pre_le {n : Nat} {S : Nat → Int} (h : okN n S = true) (j k : Nat) (hjk : j ≤ k) (hk : k ≤ n) : pre S j ≤ pre S k := by
  have := pre_mono h j k hjk hk; omega
theorem fnSpot (n : Nat) (O S : Nat → Int) (t : Int) (h : okN n S = true) (ht : 0 ≤ t) : FnOk Try.prog 23 [.nv (.one (.own 0)), .nv (.one (.val (.int .u64 (t))))] [.ro 2 n (gSl O S)] (.tup [.one (.val (.int .i64 (slt n S t : Nat))), .one (.val (.int .u64 (lft n S t)))]) [.gone] := by
  have hr := round_pos h
  have hn := (okN_iff.1 h).1
  have ea : Int.tmod t (rndN n S) = t % pre S n := by rw [rndN_ok h]; exact Int.tmod_eq_emod_of_nonneg ht
  obtain ⟨k1, k2, k3⟩ := slt_spec h t
  have hlt := Int.emod_lt_of_pos t (show 0 < pre S n by omega)
  unfold lft
  generalize slt n S t = k at *
  generalize ha : t % pre S n = a at *
  have ek : pre S (k + 1) = pre S k + S k := rfl
  have hsk := (okN_iff.1 h).2 k k1
  have p0 := pre_bd h k (by omega)
  refine sp_f n k O S t a (a - pre S k) (pre S (k + 1) - a) ea (by rw [rndN_ok h]; omega) k1 (by omega) (wU64 (by omega) (by omega)) ?_
  have hl := count_loop (P := Try.prog) (m0 := 1) (c := loopOf Try.f23 0) (n := k) (fun i => mkSt 35 [(0, .nv (.one (.own 0))), (1, .nv (.one (.val (.int .u64 (a - pre S i))))), (6, iA i)] [.ro 2 n (gSl O S)]) (X := .exit 0) (E0 := mkSt 35 [(0, .nv (.one (.own 0))), (1, .nv (.one (.val (.int .u64 (a - pre S k))))), (6, iA k)] [.ro 2 n (gSl O S)]) (by simp) (fun i hi => ?_) (sp_e n k O S (a - pre S k) k1 (by omega) (by omega))
  · have e0 : a - pre S 0 = a := by simp [pre]
    simp only [e0] at hl
    exact hl
  · have h1 := pre_le h (i + 1) k (by omega) (by omega)
    have h2 := pre_bd h i (by omega)
    have e1 : pre S (i + 1) = pre S i + S i := rfl
    have h3 := (okN_iff.1 h).2 i (by omega)
    exact sp_r n i O S (a - pre S i) (a - pre S (i + 1)) (by omega) (by omega) (by omega) (wU64 (by omega) (by omega))
theorem fnSlot (n : Nat) (O S : Nat → Int) (t : Int) (h : okN n S = true) (ht : 0 ≤ t) : FnOk Try.prog 14 [.nv (.one (.own 0)), .nv (.one (.val (.int .u64 (t))))] [.ro 2 n (gSl O S)] (.tup [.one (.val (.int .i64 (slt n S t : Nat))), .one (.val (.int .u64 (pre S (slt n S t + 1))))]) [.gone] := by
  have hr := round_pos h
  have hn := (okN_iff.1 h).1
  have ea : Int.tmod t (pre S n) = t % pre S n := Int.tmod_eq_emod_of_nonneg ht
  obtain ⟨k1, k2, k3⟩ := slt_spec h t
  generalize slt n S t = k at *
  generalize ha : t % pre S n = a at *
  refine sl_f n k O S t a (pre S (k + 1)) h ea (by omega) (by omega) ?_
  have hl := count_loop (P := Try.prog) (m0 := 1) (c := loopOf Try.f14 0) (n := k) (fun i => mkSt 30 [(0, .nv (.one (.own 0))), (1, .nv (.one (.val (.int .u64 (a))))), (6, .nv (.one (.val (.int .u64 (pre S i))))), (7, iA i)] [.ro 2 n (gSl O S)]) (X := .ret) (E0 := mkSt 30 [(4, iA k), (5, .nv (.one (.val (.int .u64 (pre S (k + 1))))))] [.ro 2 n (gSl O S)]) (by simp) (fun i hi => ?_) (sl_b n k O S a (pre S k) (pre S (k + 1)) k1 (by omega) (wU64 rfl (pre_rd h k1)) k3)
  · exact hl
  · have h1 := pre_le h (i + 1) k (by omega) (by omega)
    exact sl_r n i O S a (pre S i) (pre S (i + 1)) (by omega) (by omega) (wU64 rfl (pre_rd h (by omega))) (by omega)
def gSpot : List SV → List Seg → Option (CS × List Prop)
  | [.nv (.one a), .nv (.one (.val (.int .u64 t)))], mem => match srcOf mem 2 a with
    | some (n, g, _) => some (⟨[.nv (.one (.own 0)), .nv (.one (.val (.int .u64 (t))))], [.ro 2 n (gSl (oOf g) (sOf g))], .tup [.one (.val (.int .i64 (slt n (sOf g) t : Nat))), .one (.val (.int .u64 (lft n (sOf g) t)))], [.gone]⟩, [okN n (sOf g) = true, 0 ≤ t])
    | none => none
  | _, _ => none
theorem spSpot : SpOk Try.prog 23 (.lift gSpot) := by
  intro args mem cs obl h ho
  unfold gSpot at h
  split at h
  · split at h
    · simp only [Option.some.injEq, Prod.mk.injEq] at h
      obtain ⟨rfl, rfl⟩ := h
      exact fnSpot _ _ _ _ ho.1 ho.2.1
    · cases h
  · cases h
def gSlot : List SV → List Seg → Option (CS × List Prop)
  | [.nv (.one a), .nv (.one (.val (.int .u64 t)))], mem => match srcOf mem 2 a with
    | some (n, g, _) => some (⟨[.nv (.one (.own 0)), .nv (.one (.val (.int .u64 (t))))], [.ro 2 n (gSl (oOf g) (sOf g))], .tup [.one (.val (.int .i64 (slt n (sOf g) t : Nat))), .one (.val (.int .u64 (pre (sOf g) (slt n (sOf g) t + 1))))], [.gone]⟩, [okN n (sOf g) = true, 0 ≤ t])
    | none => none
  | _, _ => none
theorem spSlot : SpOk Try.prog 14 (.lift gSlot) := by
  intro args mem cs obl h ho
  unfold gSlot at h
  split at h
  · split at h
    · simp only [Option.some.injEq, Prod.mk.injEq] at h
      obtain ⟨rfl, rfl⟩ := h
      exact fnSlot _ _ _ _ ho.1 ho.2.1
    · cases h
  · cases h
def Gg3 : List (FuncId × Sp) := (23, .lift gSpot) :: (14, .lift gSlot) :: Gg2
theorem Gg3_ok : CtxOk Try.prog Gg3 := ctx_cons (enter_of Try.func23 (by kernel_rfl) (by kernel_rfl)) spSpot <|
  ctx_cons (enter_of Try.func14 (by kernel_rfl) (by kernel_rfl)) spSlot Gg2_ok
end Go.Proofs.Ytoincoicgfnbiaa
