/- Twins: ahead, low, high, swap, as specifications. No condition. -/
import Derived.Test.YtakpokccjgoapaaTwA
namespace Go.Proofs.Ytakpokccjgoapaa
set_option linter.unusedVariables false
set_option linter.unusedSimpArgs false
open Go.RowKit E

def boxAt (mem : List Seg) (h : Nat) : Option (List At) := match mem[h]? with | some s => boxCells s | none => none
def twAt (mem : List Seg) (h : Nat) : Option (Nat × (Nat → List At) × Int × Int) :=
  match boxAt mem h with
  | some [a, .val (.int .u64 c), .val (.int .i64 m)] => match srcOf mem 3 a with
    | some (n, g, _) => some (n, g, c, m)
    | none => none
  | _ => none
def gLow : List SV → Option (SV × List Prop)
  | [.nv (.one (.val (.int .i64 p)))] => some (iA (2 * p.toNat : Nat), [0 ≤ p, p ≤ 100000])
  | _ => none
theorem spLow : SpOk Try.prog 40 (pureS gLow) := pureS_ok (by
  intro args r obl h ho
  unfold gLow at h
  split at h
  · rename_i p
    simp only [Option.some.injEq, Prod.mk.injEq] at h
    obtain ⟨rfl, rfl⟩ := h
    simp only [AllT, and_true] at ho
    obtain ⟨p, rfl⟩ := Int.eq_ofNat_of_zero_le ho.1
    exact ⟨rfl, rfl, low_t p (by omega)⟩
  · cases h)

abbrev twMI (n : Nat) (T : Tw Int) (c m : Int) : List Seg := [.box 53 [.own 1, .val (.int .u64 c), .val (.int .i64 m)], .row 67 3 n (gTi T)]
abbrev twRI (n : Nat) (T : Tw Int) (c m : Int) : List Seg := [.robox 53 [.own 1, .val (.int .u64 c), .val (.int .i64 m)], .ro 3 n (gTi T)]
def gAheadI : List SV → Option (SV × List Prop)
  | [.nv (.agg [.val (.int .u64 a), .val (.int .u64 b), .val (.int .i64 x)]), .nv (.agg [.val (.int .u64 c), .val (.int .u64 d), .val (.int .i64 y)])] => some (bA (aheadB a b c d), [])
  | _ => none
theorem spAheadI : SpOk Try.prog 38 (pureS gAheadI) := pureS_ok (by
  intro args r obl h ho
  unfold gAheadI at h
  split at h
  · rename_i a b x c d y
    simp only [Option.some.injEq, Prod.mk.injEq] at h
    obtain ⟨rfl, rfl⟩ := h
    refine ⟨rfl, rfl, ?_⟩
    by_cases h1 : a < c
    · rw [show aheadB a b c d = true by simp [aheadB, h1]]; exact aheadI_1 a b c d x y h1
    · by_cases h2 : a = c
      · rw [show aheadB a b c d = decide (b < d) by simp [aheadB, h1, h2]]; exact aheadI_2 a b c d x y h1 h2 _ rfl
      · rw [show aheadB a b c d = false by simp [aheadB, h1, h2]]; exact aheadI_3 a b c d x y h1 h2
  · cases h)
def gHighI : List SV → List Seg → Option (CS × List Prop)
  | [.nv (.one (.ptr h 0)), .nv (.one (.val (.int .i64 p)))], mem => match twAt mem h with
    | some (n, g, c, m) => some (⟨[.nv (.one (.ptr 0 0)), iA p], twRI n (twI g) c m, iA (hiP n p.toNat : Nat), twRI n (twI g) c m⟩, [0 ≤ p, p ≤ 100000, 0 < n, n ≤ 100000])
    | none => none
  | _, _ => none
theorem spHighI : SpOk Try.prog 41 (.lift gHighI) := by
  intro args mem cs obl h ho
  unfold gHighI at h
  split at h
  · split at h
    · simp only [Option.some.injEq, Prod.mk.injEq] at h
      obtain ⟨rfl, rfl⟩ := h
      obtain ⟨o1, o2, o3, o4, _⟩ := ho
      obtain ⟨p, rfl⟩ := Int.eq_ofNat_of_zero_le o1
      exact highI _ p _ _ _ (by omega) o3 o4
    · cases h
  · cases h
def gSwapI : List SV → List Seg → Option (CS × List Prop)
  | [.nv (.one (.ptr h 0)), .nv (.one (.val (.int .i64 i))), .nv (.one (.val (.int .i64 k)))], mem => match twAt mem h with
    | some (n, g, c, m) => some (⟨[.nv (.one (.ptr 0 0)), iA i, iA k], twMI n (twI g) c m, .any, twMI n ((twI g).swap i.toNat k.toNat) c m⟩, [0 ≤ i, i.toNat < n, 0 ≤ k, k.toNat < n, n ≤ 100000])
    | none => none
  | _, _ => none
theorem spSwapI : SpOk Try.prog 39 (.lift gSwapI) := by
  intro args mem cs obl h ho
  unfold gSwapI at h
  split at h
  · split at h
    · simp only [Option.some.injEq, Prod.mk.injEq] at h
      obtain ⟨rfl, rfl⟩ := h
      obtain ⟨o1, o2, o3, o4, o5, _⟩ := ho
      obtain ⟨i, rfl⟩ := Int.eq_ofNat_of_zero_le o1
      obtain ⟨k, rfl⟩ := Int.eq_ofNat_of_zero_le o3
      exact swapI _ i k _ _ _ o2 o4 o5
    · cases h
  · cases h

abbrev twMS (n : Nat) (T : Tw ByteArray) (c m : Int) : List Seg := [.box 71 [.own 1, .val (.int .u64 c), .val (.int .i64 m)], .row 73 3 n (gTs T)]
abbrev twRS (n : Nat) (T : Tw ByteArray) (c m : Int) : List Seg := [.robox 71 [.own 1, .val (.int .u64 c), .val (.int .i64 m)], .ro 3 n (gTs T)]
def gAheadS : List SV → Option (SV × List Prop)
  | [.nv (.agg [.val (.int .u64 a), .val (.int .u64 b), .val (.string x)]), .nv (.agg [.val (.int .u64 c), .val (.int .u64 d), .val (.string y)])] => some (bA (aheadB a b c d), [])
  | _ => none
theorem spAheadS : SpOk Try.prog 42 (pureS gAheadS) := pureS_ok (by
  intro args r obl h ho
  unfold gAheadS at h
  split at h
  · rename_i a b x c d y
    simp only [Option.some.injEq, Prod.mk.injEq] at h
    obtain ⟨rfl, rfl⟩ := h
    refine ⟨rfl, rfl, ?_⟩
    by_cases h1 : a < c
    · rw [show aheadB a b c d = true by simp [aheadB, h1]]; exact aheadS_1 a b c d x y h1
    · by_cases h2 : a = c
      · rw [show aheadB a b c d = decide (b < d) by simp [aheadB, h1, h2]]; exact aheadS_2 a b c d x y h1 h2 _ rfl
      · rw [show aheadB a b c d = false by simp [aheadB, h1, h2]]; exact aheadS_3 a b c d x y h1 h2
  · cases h)
def gHighS : List SV → List Seg → Option (CS × List Prop)
  | [.nv (.one (.ptr h 0)), .nv (.one (.val (.int .i64 p)))], mem => match twAt mem h with
    | some (n, g, c, m) => some (⟨[.nv (.one (.ptr 0 0)), iA p], twRS n (twS g) c m, iA (hiP n p.toNat : Nat), twRS n (twS g) c m⟩, [0 ≤ p, p ≤ 100000, 0 < n, n ≤ 100000])
    | none => none
  | _, _ => none
theorem spHighS : SpOk Try.prog 44 (.lift gHighS) := by
  intro args mem cs obl h ho
  unfold gHighS at h
  split at h
  · split at h
    · simp only [Option.some.injEq, Prod.mk.injEq] at h
      obtain ⟨rfl, rfl⟩ := h
      obtain ⟨o1, o2, o3, o4, _⟩ := ho
      obtain ⟨p, rfl⟩ := Int.eq_ofNat_of_zero_le o1
      exact highS _ p _ _ _ (by omega) o3 o4
    · cases h
  · cases h
def gSwapS : List SV → List Seg → Option (CS × List Prop)
  | [.nv (.one (.ptr h 0)), .nv (.one (.val (.int .i64 i))), .nv (.one (.val (.int .i64 k)))], mem => match twAt mem h with
    | some (n, g, c, m) => some (⟨[.nv (.one (.ptr 0 0)), iA i, iA k], twMS n (twS g) c m, .any, twMS n ((twS g).swap i.toNat k.toNat) c m⟩, [0 ≤ i, i.toNat < n, 0 ≤ k, k.toNat < n, n ≤ 100000])
    | none => none
  | _, _ => none
theorem spSwapS : SpOk Try.prog 43 (.lift gSwapS) := by
  intro args mem cs obl h ho
  unfold gSwapS at h
  split at h
  · split at h
    · simp only [Option.some.injEq, Prod.mk.injEq] at h
      obtain ⟨rfl, rfl⟩ := h
      obtain ⟨o1, o2, o3, o4, o5, _⟩ := ho
      obtain ⟨i, rfl⟩ := Int.eq_ofNat_of_zero_le o1
      obtain ⟨k, rfl⟩ := Int.eq_ofNat_of_zero_le o3
      exact swapS _ i k _ _ _ o2 o4 o5
    · cases h
  · cases h
def Gt0 : List (FuncId × Sp) := (40, pureS gLow) :: (38, pureS gAheadI) :: (41, .lift gHighI) :: (39, .lift gSwapI) :: (42, pureS gAheadS) :: (44, .lift gHighS) :: (43, .lift gSwapS) :: G0
theorem Gt0_ok : CtxOk Try.prog Gt0 := ctx_cons (enter_of Try.func40 (by kernel_rfl) (by kernel_rfl)) spLow <|
  ctx_cons (enter_of Try.func38 (by kernel_rfl) (by kernel_rfl)) spAheadI <|
  ctx_cons (enter_of Try.func41 (by kernel_rfl) (by kernel_rfl)) spHighI <|
  ctx_cons (enter_of Try.func39 (by kernel_rfl) (by kernel_rfl)) spSwapI <|
  ctx_cons (enter_of Try.func42 (by kernel_rfl) (by kernel_rfl)) spAheadS <|
  ctx_cons (enter_of Try.func44 (by kernel_rfl) (by kernel_rfl)) spHighS <|
  ctx_cons (enter_of Try.func43 (by kernel_rfl) (by kernel_rfl)) spSwapS G0_ok
end Go.Proofs.Ytakpokccjgoapaa
