/- Twins: PopMin, PopMax, as specifications. No condition. -/
import Derived.Test.YtakpokccjgoapaaTwR
namespace Go.Proofs.Ytakpokccjgoapaa
set_option linter.unusedVariables false
set_option linter.unusedSimpArgs false
open Go.RowKit E
def Tw.popL {α : Type} (T : Tw α) (n : Nat) : Tw α := if 1 < n then (T.put 0 (T.r (n - 1)) (T.c (n - 1)) (T.x (n - 1))).sinkL (n - 1) else T
def Tw.popH {α : Type} (T : Tw α) (n : Nat) : Tw α := if 2 < n then (T.put 1 (T.r (n - 1)) (T.c (n - 1)) (T.x (n - 1))).sinkH (n - 1) else T
theorem mxI_1 {n : Nat} (h : 1 < n) : mxI n = 1 := if_pos h
theorem isP_nat {n k : Nat} (h : k < n) : isP n (k : Int) = true := by unfold isP; rw [decide_eq_true (by omega), decide_eq_true (by omega)]; rfl
theorem isP_1 {n : Nat} (h : 1 < n) : isP n 1 = true := isP_nat (k := 1) h
theorem isP_0 {n : Nat} (h : 0 < n) : isP n 0 = true := isP_nat (k := 0) h
section
variable {α : Type} (z : α) (T : Tw α)
theorem atR_1 {n : Nat} (h : 1 < n) : atR T n 1 = T.r 1 := if_pos (isP_1 h)
theorem atR_0 {n : Nat} (h : 0 < n) : atR T n 0 = T.r 0 := if_pos (isP_0 h)
theorem atX_1 {n : Nat} (h : 1 < n) : atX z T n 1 = T.x 1 := if_pos (isP_1 h)
theorem atX_0 {n : Nat} (h : 0 < n) : atX z T n 0 = T.x 0 := if_pos (isP_0 h)
end

def gPopMinI : List SV → List Seg → Option (CS × List Prop)
  | [.nv (.one (.ptr h 0))], mem => match twAt mem h with
    | some (n, g, c, m) => some (⟨[.nv (.one (.ptr 0 0))], twMI n (twI g) c m, itI (atR (twI g) n 0) (atX 0 (twI g) n 0) (isP n 0), twNI (n - 1) ((twI g).popL n) c m⟩, [n ≤ 100000])
    | none => none
  | [.nv (.one (.val (.pointer none)))], _ => some (⟨[nilA], [], itI 0 0 false, []⟩, [])
  | _, _ => none
theorem fnPopMinI (n : Nat) (T : Tw Int) (c m : Int) (hn : n ≤ 100000) : FnOk Try.prog 17 [.nv (.one (.ptr 0 0))] (twMI n T c m) (itI (atR T n 0) (atX 0 T n 0) (isP n 0)) (twNI (n - 1) (T.popL n) c m) := by
  rcases (by omega : n = 0 ∨ n = 1 ∨ 1 < n) with rfl | rfl | h
  · exact pminI_0 T c m
  · exact pminI_1 T c m
  · rw [atR_0 T (by omega), atX_0 0 T (by omega), isP_0 (by omega)]
    unfold Tw.popL
    rw [if_pos h]
    exact pminI_2 n T c m h hn (atR_0 T (by omega)) (atX_0 0 T (by omega)) (isP_0 (by omega))
theorem spPopMinI : SpOk Try.prog 17 (.lift gPopMinI) := by
  intro args mem cs obl h ho
  unfold gPopMinI at h
  split at h
  · split at h
    · simp only [Option.some.injEq, Prod.mk.injEq] at h
      obtain ⟨rfl, rfl⟩ := h
      exact fnPopMinI _ _ _ _ ho.1
    · cases h
  · simp only [Option.some.injEq, Prod.mk.injEq] at h
    obtain ⟨rfl, rfl⟩ := h
    exact pminI_z 0
  · cases h

theorem tw_gI (T : Tw Int) : twI (gTi T) = T := rfl
def gPopMaxI : List SV → List Seg → Option (CS × List Prop)
  | [.nv (.one (.ptr h 0))], mem => match twAt mem h with
    | some (n, g, c, m) => some (⟨[.nv (.one (.ptr 0 0))], twMI n (twI g) c m, itI (atR (twI g) n (mxI n)) (atX 0 (twI g) n (mxI n)) (isP n (mxI n)), twNI (n - 1) ((twI g).popH n) c m⟩, [n ≤ 100000])
    | none => none
  | [.nv (.one (.val (.pointer none)))], _ => some (⟨[nilA], [], itI 0 0 false, []⟩, [])
  | _, _ => none
theorem fnPopMaxI (n : Nat) (T : Tw Int) (c m : Int) (hn : n ≤ 100000) : FnOk Try.prog 18 [.nv (.one (.ptr 0 0))] (twMI n T c m) (itI (atR T n (mxI n)) (atX 0 T n (mxI n)) (isP n (mxI n))) (twNI (n - 1) (T.popH n) c m) := by
  rcases (by omega : n = 0 ∨ n = 1 ∨ n = 2 ∨ 2 < n) with rfl | rfl | rfl | h
  · exact pmaxI_0 T c m
  · exact pmaxI_1 T c m
  · exact pmaxI_2 T c m
  · rw [mxI_1 (by omega), atR_1 T (by omega), atX_1 0 T (by omega), isP_1 (by omega)]
    unfold Tw.popH
    rw [if_pos h]
    have e := mxI_1 (n := n) (by omega)
    exact pmaxI_3 n T c m h hn (by rw [e]; exact atR_1 T (by omega)) (by rw [e]; exact atX_1 0 T (by omega)) (by rw [e]; exact isP_1 (by omega)) (by rw [mxI_eq hn, e])
theorem spPopMaxI : SpOk Try.prog 18 (.lift gPopMaxI) := by
  intro args mem cs obl h ho
  unfold gPopMaxI at h
  split at h
  · split at h
    · simp only [Option.some.injEq, Prod.mk.injEq] at h
      obtain ⟨rfl, rfl⟩ := h
      exact fnPopMaxI _ _ _ _ ho.1
    · cases h
  · simp only [Option.some.injEq, Prod.mk.injEq] at h
    obtain ⟨rfl, rfl⟩ := h
    exact pmaxI_z 0
  · cases h

theorem tw_gS (T : Tw ByteArray) : twS (gTs T) = T := rfl
def gPopMaxS : List SV → List Seg → Option (CS × List Prop)
  | [.nv (.one (.ptr h 0))], mem => match twAt mem h with
    | some (n, g, c, m) => some (⟨[.nv (.one (.ptr 0 0))], twMS n (twS g) c m, itS (atR (twS g) n (mxI n)) (atX ByteArray.empty (twS g) n (mxI n)) (isP n (mxI n)), twNS (n - 1) ((twS g).popH n) c m⟩, [n ≤ 2])
    | none => none
  | [.nv (.one (.val (.pointer none)))], _ => some (⟨[nilA], [], itS 0 ByteArray.empty false, []⟩, [False])
  | _, _ => none
theorem fnPopMaxS (n : Nat) (T : Tw ByteArray) (c m : Int) (hn : n ≤ 2) : FnOk Try.prog 36 [.nv (.one (.ptr 0 0))] (twMS n T c m) (itS (atR T n (mxI n)) (atX ByteArray.empty T n (mxI n)) (isP n (mxI n))) (twNS (n - 1) (T.popH n) c m) := by
  rcases (by omega : n = 0 ∨ n = 1 ∨ n = 2 ∨ 2 < n) with rfl | rfl | rfl | h
  · exact pmaxS_0 T c m
  · exact pmaxS_1 T c m
  · exact pmaxS_2 T c m
  · omega
theorem spPopMaxS : SpOk Try.prog 36 (.lift gPopMaxS) := by
  intro args mem cs obl h ho
  unfold gPopMaxS at h
  split at h
  · split at h
    · simp only [Option.some.injEq, Prod.mk.injEq] at h
      obtain ⟨rfl, rfl⟩ := h
      exact fnPopMaxS _ _ _ _ ho.1
    · cases h
  · simp only [Option.some.injEq, Prod.mk.injEq] at h
    obtain ⟨rfl, rfl⟩ := h
    exact ho.1.elim
  · cases h
def Gt6 : List (FuncId × Sp) := (17, .lift gPopMinI) :: (18, .lift gPopMaxI) :: (36, .lift gPopMaxS) :: Gt5
theorem Gt6_ok : CtxOk Try.prog Gt6 := ctx_cons (enter_of Try.func17 (by kernel_rfl) (by kernel_rfl)) spPopMinI <|
  ctx_cons (enter_of Try.func18 (by kernel_rfl) (by kernel_rfl)) spPopMaxI <|
  ctx_cons (enter_of Try.func36 (by kernel_rfl) (by kernel_rfl)) spPopMaxS Gt5_ok
end Go.Proofs.Ytakpokccjgoapaa
