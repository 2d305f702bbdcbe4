/- gate: Open, the document's Is. No condition. -/
import Derived.Test.YtoincoicgfnbiaaGaH
namespace Go.Proofs.Ytoincoicgfnbiaa
set_option linter.unusedVariables false
set_option linter.unusedSimpArgs false
open Go.RowKit E
def opnN (n : Nat) (O S : Nat → Int) (t : Int) : Int := if okN n S = true then O (slt n S t) else 0
theorem fnOpen (n : Nat) (O S : Nat → Int) (t : Int) (ht : 0 ≤ t) : FnOk Try.prog 13 [.nv (.one (.own 0)), .nv (.one (.val (.int .u64 (t))))] [.ro 2 n (gSl O S)] (.nv (.one (.val (.int .u8 (opnN n O S t))))) [.gone] := by
  unfold opnN
  rcases chk_cases n S with ⟨h, hk⟩ | ⟨h, hk⟩
  · rw [if_pos h]
    have := (okN_iff.1 h).1
    exact op_y n O S t _ hk h ht (slt_spec h t).1 (by omega) rfl
  · rw [if_neg (by rw [h]; simp)]
    exact op_n n O S t hk
def hlv (o : Int) : Nat → Int
  | 0 => o
  | k + 1 => IntKind.wrap .u8 (Int.tdiv (hlv o k) 2)
def isB (o : Int) (c : Nat) : Bool := Int.tmod (hlv o c) 2 == 1
theorem fnIs (n : Nat) (O S : Nat → Int) (t : Int) (c : Nat) (h : okN n S = true) (ht : 0 ≤ t) (hc : c ≤ 7) : FnOk Try.prog 24 [.nv (.one (.own 0)), iA c, .nv (.one (.val (.int .u64 (t))))] [.ro 2 n (gSl O S)] (bA (isB (O (slt n S t)) c)) [.gone] := by
  have := (okN_iff.1 h).1
  refine is_f n O S t _ (hlv (O (slt n S t)) c) c h ht (slt_spec h t).1 (by omega) rfl _ rfl ?_
  exact count_loop (P := Try.prog) (m0 := 1) (c := loopOf Try.f24 0) (n := c) (fun i => mkSt 32 [(1, iA c), (9, .nv (.one (.val (.int .u8 (hlv (O (slt n S t)) i))))), (10, iA i)] [.ro 2 n (gSl O S)]) (by simp) (fun i hi => is_r n i c O S _ _ hi hc rfl) (is_e n c O S _ hc)
def gOpen : List SV → List Seg → Option (CS × List Prop)
  | [.nv (.one a), .nv (.one (.val (.int .u64 t)))], mem => match srcOf mem 2 a with
    | some (n, g, _) => some (⟨[.nv (.one (.own 0)), .nv (.one (.val (.int .u64 (t))))], [.ro 2 n (gSl (oOf g) (sOf g))], .nv (.one (.val (.int .u8 (opnN n (oOf g) (sOf g) t)))), [.gone]⟩, [0 ≤ t])
    | none => none
  | _, _ => none
theorem spOpen : SpOk Try.prog 13 (.lift gOpen) := by
  intro args mem cs obl h ho
  unfold gOpen at h
  split at h
  · split at h
    · simp only [Option.some.injEq, Prod.mk.injEq] at h
      obtain ⟨rfl, rfl⟩ := h
      exact fnOpen _ _ _ _ ho.1
    · cases h
  · cases h
def gIs : List SV → List Seg → Option (CS × List Prop)
  | [.nv (.one a), .nv (.one (.val (.int .i64 c))), .nv (.one (.val (.int .u64 t)))], mem => match srcOf mem 2 a with
    | some (n, g, _) => some (⟨[.nv (.one (.own 0)), iA c.toNat, .nv (.one (.val (.int .u64 (t))))], [.ro 2 n (gSl (oOf g) (sOf g))], bA (isB (oOf g (slt n (sOf g) t)) c.toNat), [.gone]⟩, [okN n (sOf g) = true, 0 ≤ t, c.toNat ≤ 7])
    | none => none
  | _, _ => none
theorem spIs : SpOk Try.prog 24 (.lift gIs) := by
  intro args mem cs obl h ho
  unfold gIs at h
  split at h
  · split at h
    · simp only [Option.some.injEq, Prod.mk.injEq] at h
      obtain ⟨rfl, rfl⟩ := h
      exact fnIs _ _ _ _ _ ho.1 ho.2.1 ho.2.2.1
    · cases h
  · cases h
def Gg4 : List (FuncId × Sp) := (13, .lift gOpen) :: (24, .lift gIs) :: Gg3
theorem Gg4_ok : CtxOk Try.prog Gg4 := ctx_cons (enter_of Try.func13 (by kernel_rfl) (by kernel_rfl)) spOpen <|
  ctx_cons (enter_of Try.func24 (by kernel_rfl) (by kernel_rfl)) spIs Gg3_ok
/-- What time is in how many slots. -/
def spn (n : Nat) (S : Nat → Int) (t : Int) (j : Nat) : Int := if j = 0 then lft n S t else S ((slt n S t + j) % n)
def opj (n : Nat) (O S : Nat → Int) (t : Int) (c j : Nat) : Bool := isB (O ((slt n S t + j) % n)) c
/-- How long the first slots from a time on take. -/
def tmj (n : Nat) (S : Nat → Int) (t : Int) : Nat → Int
  | 0 => 0
  | j + 1 => tmj n S t j + spn n S t j
section
variable {n : Nat} {S : Nat → Int}
theorem lft_bd (h : okN n S = true) (t : Int) : 1 ≤ lft n S t ∧ lft n S t ≤ S (slt n S t) := by
  obtain ⟨h1, h2, h3⟩ := slt_spec h t
  unfold lft
  have e : pre S (slt n S t + 1) = pre S (slt n S t) + S (slt n S t) := rfl
  omega
theorem spn_bd (h : okN n S = true) (t : Int) (j : Nat) : 1 ≤ spn n S t j ∧ spn n S t j ≤ 4294967296 := by
  have hn := (okN_iff.1 h).1
  unfold spn
  split
  · have := lft_bd h t
    have := (okN_iff.1 h).2 _ (slt_spec h t).1
    omega
  · exact (okN_iff.1 h).2 _ (Nat.mod_lt _ (by omega))
theorem tmj_bd (h : okN n S = true) (t : Int) : ∀ j : Nat, (j : Int) ≤ tmj n S t j ∧ tmj n S t j ≤ 4294967296 * j
  | 0 => by simp [tmj]
  | j + 1 => by
    have := tmj_bd h t j
    have := spn_bd h t j
    simp only [tmj]
    omega
/-- Where a slot begins. -/
theorem slt_pre (h : okN n S = true) {i : Nat} (hi : i < n) : slt n S (pre S i) = i ∧ lft n S (pre S i) = S i := by
  have e : pre S i % pre S n = pre S i := by
    have := pre_bd h i (by omega)
    have := pre_mono h i n (by omega) (Nat.le_refl _)
    exact Int.emod_eq_of_lt (by omega) (by omega)
  obtain ⟨h1, h2, h3⟩ := slt_spec h (pre S i)
  rw [e] at h2 h3
  have e2 : pre S (i + 1) = pre S i + S i := rfl
  have := (okN_iff.1 h).2 i hi
  have ei := sl_uniq h h1 hi h2 h3 (Int.le_refl _) (by omega)
  refine ⟨ei, ?_⟩
  unfold lft
  rw [ei, e, e2]
  omega
theorem slt_emod (t : Int) : slt n S (t % pre S n) = slt n S t ∧ lft n S (t % pre S n) = lft n S t := by
  have e : t % pre S n % pre S n = t % pre S n := Int.emod_emod _ _
  unfold lft slt
  rw [e]
  exact ⟨rfl, rfl⟩
/-- Two times that are apart by rounds. -/
theorem slt_congr {t u : Int} (h : t % pre S n = u % pre S n) : slt n S t = slt n S u ∧ lft n S t = lft n S u := by
  rw [← (slt_emod t).1, ← (slt_emod t).2, h]
  exact slt_emod u
/-- The slot behind the one of a time. -/
theorem slt_next (h : okN n S = true) (t : Int) : slt n S (t + lft n S t) = (slt n S t + 1) % n ∧ lft n S (t + lft n S t) = S ((slt n S t + 1) % n) := by
  obtain ⟨h1, h2, h3⟩ := slt_spec h t
  have hr := round_pos h
  have hn := (okN_iff.1 h).1
  have e1 : t + lft n S t = pre S n * (t / pre S n) + pre S (slt n S t + 1) := by
    unfold lft
    have := Int.mul_ediv_add_emod t (pre S n)
    omega
  by_cases e : slt n S t + 1 = n
  · have e2 : (t + lft n S t) % pre S n = pre S 0 % pre S n := by
      rw [e1, e]
      simp [pre]
    rw [(slt_congr e2).1, (slt_congr e2).2, e, Nat.mod_self]
    exact slt_pre h (by omega)
  · have e2 : (t + lft n S t) % pre S n = pre S (slt n S t + 1) % pre S n := by
      rw [e1, Int.add_comm, Int.add_mul_emod_self_left]
    rw [(slt_congr e2).1, (slt_congr e2).2, Nat.mod_eq_of_lt (by omega)]
    exact slt_pre h (by omega)
/-- Where the slots from a time on begin. -/
theorem slt_tmj (h : okN n S = true) (t : Int) : ∀ j, slt n S (t + tmj n S t j) = (slt n S t + j) % n ∧ lft n S (t + tmj n S t j) = spn n S t j
  | 0 => by
    have := (slt_spec h t).1
    simp only [tmj, Int.add_zero, Nat.add_zero, spn]
    exact ⟨(Nat.mod_eq_of_lt this).symm, rfl⟩
  | j + 1 => by
    obtain ⟨h1, h2⟩ := slt_tmj h t j
    have := slt_next h (t + tmj n S t j)
    rw [h1, h2] at this
    simp only [tmj]
    rw [← Int.add_assoc, this.1, this.2, Nat.mod_add_mod]
    refine ⟨rfl, ?_⟩
    unfold spn
    rw [if_neg (by omega)]
    rfl
end
end Go.Proofs.Ytoincoicgfnbiaa
