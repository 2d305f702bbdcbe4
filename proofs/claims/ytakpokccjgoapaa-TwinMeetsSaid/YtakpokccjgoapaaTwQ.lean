/- Twins: Push, Min, Max, as specifications. No condition. -/
import Derived.Test.YtakpokccjgoapaaTwP
namespace Go.Proofs.Ytakpokccjgoapaa
set_option linter.unusedVariables false
set_option linter.unusedSimpArgs false
open Go.RowKit E
def pushN (n : Nat) (m : Int) : Nat := if (n : Int) < m then n + 1 else n
def pushC (n : Nat) (c m : Int) : Int := if (n : Int) < m then c + 1 else c
def Tw.push {α : Type} (T : Tw α) (n : Nat) (r c m : Int) (x : α) : Tw α := if (n : Int) < m then (T.put n r c x).up (n + 1) n else T
def room (c m : Int) (n : Nat) : Prop := n < 100000 ∧ m ≤ 4096 ∧ 0 ≤ c ∧ c < 1000000

def gMinI : List SV → List Seg → Option (CS × List Prop)
  | [.nv (.one (.ptr h 0))], mem => match twAt mem h with
    | some (n, g, c, m) => some (⟨[.nv (.one (.ptr 0 0))], twRI n (twI g) c m, itI (atR (twI g) n 0) (atX 0 (twI g) n 0) (isP n 0), twRI n (twI g) c m⟩, [])
    | none => none
  | [.nv (.one (.val (.pointer none)))], _ => some (⟨[nilA], [], itI 0 0 false, []⟩, [])
  | _, _ => none
theorem spMinI : SpOk Try.prog 11 (.lift gMinI) := by
  intro args mem cs obl h ho
  unfold gMinI at h
  split at h
  · split at h
    · simp only [Option.some.injEq, Prod.mk.injEq] at h
      obtain ⟨rfl, rfl⟩ := h
      exact minI _ _ _ _
    · cases h
  · simp only [Option.some.injEq, Prod.mk.injEq] at h
    obtain ⟨rfl, rfl⟩ := h
    exact minI_0 0
  · cases h

def gMaxI : List SV → List Seg → Option (CS × List Prop)
  | [.nv (.one (.ptr h 0))], mem => match twAt mem h with
    | some (n, g, c, m) => some (⟨[.nv (.one (.ptr 0 0))], twRI n (twI g) c m, itI (atR (twI g) n (mxI n)) (atX 0 (twI g) n (mxI n)) (isP n (mxI n)), twRI n (twI g) c m⟩, [n ≤ 100000])
    | none => none
  | [.nv (.one (.val (.pointer none)))], _ => some (⟨[nilA], [], itI 0 0 false, []⟩, [])
  | _, _ => none
theorem spMaxI : SpOk Try.prog 13 (.lift gMaxI) := by
  intro args mem cs obl h ho
  unfold gMaxI at h
  split at h
  · split at h
    · simp only [Option.some.injEq, Prod.mk.injEq] at h
      obtain ⟨rfl, rfl⟩ := h
      exact maxI _ _ _ _ ho.1
    · cases h
  · simp only [Option.some.injEq, Prod.mk.injEq] at h
    obtain ⟨rfl, rfl⟩ := h
    exact maxI_0 0
  · cases h
def gPushI : List SV → List Seg → Option (CS × List Prop)
  | [.nv (.one (.ptr h 0)), .nv (.one (.val (.int .u64 r))), .nv (.one (.val (.int .i64 x)))], mem => match twAt mem h with
    | some (n, g, c, m) => some (⟨[.nv (.one (.ptr 0 0)), .nv (.one (.val (.int .u64 r))), .nv (.one (.val (.int .i64 x)))], twMI n (twI g) c m, bA (decide ((n : Int) < m)), twNI (pushN n m) ((twI g).push n r c m x) (pushC n c m) m⟩, [room c m n])
    | none => none
  | [.nv (.one (.val (.pointer none))), .nv (.one (.val (.int .u64 r))), .nv (.one (.val (.int .i64 x)))], _ => some (⟨[nilA, .nv (.one (.val (.int .u64 r))), .nv (.one (.val (.int .i64 x)))], [], bA false, []⟩, [])
  | _, _ => none
theorem fnPushI (n : Nat) (T : Tw Int) (r c m : Int) (x : Int) (h : room c m n) : FnOk Try.prog 16 [.nv (.one (.ptr 0 0)), .nv (.one (.val (.int .u64 r))), .nv (.one (.val (.int .i64 x)))] (twMI n T c m) (bA (decide ((n : Int) < m))) (twNI (pushN n m) (T.push n r c m x) (pushC n c m) m) := by
  obtain ⟨h1, h2, h3, h4⟩ := h
  by_cases q : (n : Int) < m
  · rw [decide_eq_true q]
    unfold pushN pushC Tw.push
    rw [if_pos q, if_pos q, if_pos q]
    exact pushI_t n T r c m x h1 q h2 (wU64 rfl (by omega)) (w64 (by omega) (by omega))
  · rw [decide_eq_false q]
    unfold pushN pushC Tw.push
    rw [if_neg q, if_neg q, if_neg q]
    exact pushI_f n T r c m x (by omega) (by omega)
theorem spPushI : SpOk Try.prog 16 (.lift gPushI) := by
  intro args mem cs obl h ho
  unfold gPushI at h
  split at h
  · split at h
    · simp only [Option.some.injEq, Prod.mk.injEq] at h
      obtain ⟨rfl, rfl⟩ := h
      exact fnPushI _ _ _ _ _ _ ho.1
    · cases h
  · simp only [Option.some.injEq, Prod.mk.injEq] at h
    obtain ⟨rfl, rfl⟩ := h
    exact pushI_0 _ _
  · cases h

def gMaxS : List SV → List Seg → Option (CS × List Prop)
  | [.nv (.one (.ptr h 0))], mem => match twAt mem h with
    | some (n, g, c, m) => some (⟨[.nv (.one (.ptr 0 0))], twRS n (twS g) c m, itS (atR (twS g) n (mxI n)) (atX ByteArray.empty (twS g) n (mxI n)) (isP n (mxI n)), twRS n (twS g) c m⟩, [n ≤ 100000])
    | none => none
  | [.nv (.one (.val (.pointer none)))], _ => some (⟨[nilA], [], itS 0 ByteArray.empty false, []⟩, [])
  | _, _ => none
theorem spMaxS : SpOk Try.prog 24 (.lift gMaxS) := by
  intro args mem cs obl h ho
  unfold gMaxS at h
  split at h
  · split at h
    · simp only [Option.some.injEq, Prod.mk.injEq] at h
      obtain ⟨rfl, rfl⟩ := h
      exact maxS _ _ _ _ ho.1
    · cases h
  · simp only [Option.some.injEq, Prod.mk.injEq] at h
    obtain ⟨rfl, rfl⟩ := h
    exact maxS_0 0
  · cases h
def gPushS : List SV → List Seg → Option (CS × List Prop)
  | [.nv (.one (.ptr h 0)), .nv (.one (.val (.int .u64 r))), .nv (.one (.val (.string x)))], mem => match twAt mem h with
    | some (n, g, c, m) => some (⟨[.nv (.one (.ptr 0 0)), .nv (.one (.val (.int .u64 r))), .nv (.one (.val (.string x)))], twMS n (twS g) c m, bA (decide ((n : Int) < m)), twNS (pushN n m) ((twS g).push n r c m x) (pushC n c m) m⟩, [room c m n])
    | none => none
  | [.nv (.one (.val (.pointer none))), .nv (.one (.val (.int .u64 r))), .nv (.one (.val (.string x)))], _ => some (⟨[nilA, .nv (.one (.val (.int .u64 r))), .nv (.one (.val (.string x)))], [], bA false, []⟩, [])
  | _, _ => none
theorem fnPushS (n : Nat) (T : Tw ByteArray) (r c m : Int) (x : ByteArray) (h : room c m n) : FnOk Try.prog 22 [.nv (.one (.ptr 0 0)), .nv (.one (.val (.int .u64 r))), .nv (.one (.val (.string x)))] (twMS n T c m) (bA (decide ((n : Int) < m))) (twNS (pushN n m) (T.push n r c m x) (pushC n c m) m) := by
  obtain ⟨h1, h2, h3, h4⟩ := h
  by_cases q : (n : Int) < m
  · rw [decide_eq_true q]
    unfold pushN pushC Tw.push
    rw [if_pos q, if_pos q, if_pos q]
    exact pushS_t n T r c m x h1 q h2 (wU64 rfl (by omega)) (w64 (by omega) (by omega))
  · rw [decide_eq_false q]
    unfold pushN pushC Tw.push
    rw [if_neg q, if_neg q, if_neg q]
    exact pushS_f n T r c m x (by omega) (by omega)
theorem spPushS : SpOk Try.prog 22 (.lift gPushS) := by
  intro args mem cs obl h ho
  unfold gPushS at h
  split at h
  · split at h
    · simp only [Option.some.injEq, Prod.mk.injEq] at h
      obtain ⟨rfl, rfl⟩ := h
      exact fnPushS _ _ _ _ _ _ ho.1
    · cases h
  · simp only [Option.some.injEq, Prod.mk.injEq] at h
    obtain ⟨rfl, rfl⟩ := h
    exact pushS_0 _ _
  · cases h
def Gt5 : List (FuncId × Sp) := (11, .lift gMinI) :: (13, .lift gMaxI) :: (16, .lift gPushI) :: (24, .lift gMaxS) :: (22, .lift gPushS) :: Gt4
theorem Gt5_ok : CtxOk Try.prog Gt5 := ctx_cons (enter_of Try.func11 (by kernel_rfl) (by kernel_rfl)) spMinI <|
  ctx_cons (enter_of Try.func13 (by kernel_rfl) (by kernel_rfl)) spMaxI <|
  ctx_cons (enter_of Try.func16 (by kernel_rfl) (by kernel_rfl)) spPushI <|
  ctx_cons (enter_of Try.func24 (by kernel_rfl) (by kernel_rfl)) spMaxS <|
  ctx_cons (enter_of Try.func22 (by kernel_rfl) (by kernel_rfl)) spPushS Gt4_ok
end Go.Proofs.Ytakpokccjgoapaa
