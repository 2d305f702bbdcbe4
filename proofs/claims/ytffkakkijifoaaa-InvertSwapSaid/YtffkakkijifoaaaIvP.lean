/- invert: the example as a specification. No condition. -/
import Derived.Test.YtffkakkijifoaaaIvO
namespace Go.Proofs.Ytffkakkijifoaaa
set_option linter.unusedVariables false
set_option linter.unusedSimpArgs false
open Go.RowKit E
def gLvI : List SV → Option (SV × List Prop)
  | [] => some (bA true, [])
  | _ => none
theorem spLvI : SpOk Try.prog 6 (pureS gLvI) := pureS_ok (by
  intro args r obl h ho
  unfold gLvI at h
  split at h
  · simp only [Option.some.injEq, Prod.mk.injEq] at h
    obtain ⟨rfl, rfl⟩ := h
    exact ⟨rfl, rfl, lv_iv⟩
  · cases h)
/-- The number at the other place. -/
def swpF (L : Nat → Int) (k : Nat) : Nat → Int := fun j => if j = k then L (k + 1) else if j = k + 1 then L k else L j
/-- The numbers in order. -/
def ordM (L : Nat → Int) (N : Nat) : Nat → Nat → Int
  | 0 => z0
  | i + 1 => putF (ordM L N i) i (L ((srt L N).p i).toNat)
def fallsB (L : Nat → Int) : Nat → Bool
  | 0 => false
  | i + 1 => fallsB L i || (decide (0 < i) && decide (L i < L (i - 1)))
theorem sw_goal {N M : Nat} {G : Nat → List At} {L' : Nat → Int} {b : Int} (hm : M = N) (h : ∀ j, G j = gU L' j) (eB : sumW (srt L' N).d N = b) : sumW (srt (cF G) M).d M = b := by
  have e : G = gU L' := funext h
  subst e; subst hm; exact eB
theorem sw_le {G : Nat → List At} {L' : Nat → Int} {n m : Nat} {ρ : List (Nat × Bd)} (h : ∀ j, G j = gU L' j) : ∀ j, j < n → AllT (leAts ρ m (G j) (gU (cF G) j)) := by
  have e : G = gU L' := funext h
  subst e
  intro j hj; exact ⟨rfl, trivial⟩
theorem swG {N k q r : Nat} {L : Nat → Int} (hN : N ≠ 1) (hq : q = k) (hr : r = k + 1) (j : Nat) :
    (if j = r then List.take 0 (if r = q then List.take 0 (if N = 1 then if q = 0 then gU L 0 else [] else if q < 0 then [] else gU L (q - 0)) ++ [At.val (Value.int IntKind.u64 (L (r)))] ++ List.drop 1 (if N = 1 then if q = 0 then gU L 0 else [] else if q < 0 then [] else gU L (q - 0)) else if N = 1 then if r = 0 then gU L 0 else [] else if r < 0 then [] else gU L (r - 0)) ++ [At.val (Value.int IntKind.u64 (L (q)))] ++ List.drop 1 (if r = q then List.take 0 (if N = 1 then if q = 0 then gU L 0 else [] else if q < 0 then [] else gU L (q - 0)) ++ [At.val (Value.int IntKind.u64 (L (r)))] ++ List.drop 1 (if N = 1 then if q = 0 then gU L 0 else [] else if q < 0 then [] else gU L (q - 0)) else if N = 1 then if r = 0 then gU L 0 else [] else if r < 0 then [] else gU L (r - 0)) else if j = q then List.take 0 (if N = 1 then if q = 0 then gU L 0 else [] else if q < 0 then [] else gU L (q - 0)) ++ [At.val (Value.int IntKind.u64 (L (r)))] ++ List.drop 1 (if N = 1 then if q = 0 then gU L 0 else [] else if q < 0 then [] else gU L (q - 0)) else if N = 1 then if j = 0 then gU L 0 else [] else if j < 0 then [] else gU L (j - 0)) = gU (swpF L k) j := by
  subst hq; subst hr
  simp only [if_neg hN, Nat.not_lt_zero, if_false, Nat.sub_zero, if_neg (show ¬ q + 1 = q by omega)]
  by_cases h1 : j = q + 1
  · subst h1; simp [swpF]
  · by_cases h2 : j = q
    · subst h2; simp [swpF]
    · simp [swpF, h1, h2]
def Giv4 : List (FuncId × Sp) := (6, pureS gLvI) :: Giv3
theorem Giv4_ok : CtxOk Try.prog Giv4 := ctx_cons (enter_of Try.func6 (by kernel_rfl) (by kernel_rfl)) spLvI Giv3_ok
end Go.Proofs.Ytffkakkijifoaaa
