/- bits.Len64 as a specification. No condition. -/
import Derived.Test.YtecgigeahkijaaaWrE
import Derived.Test.YtecgigeahkijaaaChecked
import Derived.Shelf.Strconv.Itoa0
namespace Go.Proofs.Ytecgigeahkijaaa
set_option linter.unusedVariables false
set_option linter.unusedSimpArgs false
set_option maxRecDepth 100000
open Go.RowKit E Go.Proofs Go.Shelf

def rho : Ren := ⟨fun _ => 34, fun n => match n with | 3 => 3 | 4 => 4 | 5 => 5 | 9 => 9 | 46 => 87 | 53 => 28 | _ => 0, fun n => n⟩
theorem laysLen : Lays.n129 Try.prog rho where
  mixed := by kernel_rfl
  f129 := by kernel_rfl
  t3 := by kernel_rfl
  a3 := fun _ => by kernel_rfl
  z3 := fun _ => by kernel_rfl
  v3 := fun _ => by kernel_rfl
  t4 := by kernel_rfl
  a4 := fun _ => by kernel_rfl
  z4 := fun _ => by kernel_rfl
  v4 := fun _ => by kernel_rfl
  t5 := by kernel_rfl
  a5 := fun _ => by kernel_rfl
  z5 := fun _ => by kernel_rfl
  v5 := fun _ => by kernel_rfl
  t9 := by kernel_rfl
  a9 := fun _ => by kernel_rfl
  z9 := fun _ => by kernel_rfl
  v9 := fun _ => by kernel_rfl
  t46 := by kernel_rfl
  a46 := fun _ => by kernel_rfl
  z46 := fun _ => by kernel_rfl
  v46 := fun _ => by kernel_rfl
  t53 := by kernel_rfl
  a53 := fun _ => by kernel_rfl
  z53 := fun _ => by kernel_rfl
  v53 := fun _ => by kernel_rfl
def gLen64 : List SV → Option (SV × List Prop)
  | [.nv (.one (.val (.int .u64 x)))] => some (iA (Lib.bitLen x.toNat : Nat), [0 ≤ x, x ≤ 18446744073709551615])
  | _ => none
theorem spLen64 : SpOk Try.prog 34 (pureS gLen64) := pureS_ok (by
  intro args r obl h ho
  unfold gLen64 at h
  split at h
  · rename_i x
    simp only [Option.some.injEq, Prod.mk.injEq] at h
    obtain ⟨rfl, rfl⟩ := h
    refine ⟨rfl, rfl, ?_⟩
    intro vals w hv
    match vals, hv with
    | [v], hv =>
      obtain rfl : v = .int .u64 x := hv.1
      refine (Any.bits_Len64 laysLen x w ho.1 ho.2.1).mono ?_
      rintro e w' ⟨rfl, rfl⟩
      exact ⟨_, rfl, rfl, Ext.refl _⟩
  · cases h)
theorem bl_aux : ∀ f k x, x < 2 ^ f → (Go.Lib.bitLenAux f x ≤ k ↔ x < 2 ^ k)
  | 0, k, x, h => by
    have : x = 0 := by simpa using h
    subst this
    exact ⟨fun _ => Nat.pow_pos (by omega), fun _ => Nat.zero_le _⟩
  | f + 1, k, x, h => by
    unfold Go.Lib.bitLenAux
    by_cases e : x = 0
    · subst e
      rw [if_pos rfl]
      exact ⟨fun _ => Nat.pow_pos (by omega), fun _ => Nat.zero_le _⟩
    · rw [if_neg e]
      cases k with
      | zero => simp; omega
      | succ k =>
        have := bl_aux f k (x / 2) (by rw [Nat.pow_succ] at h; omega)
        rw [Nat.pow_succ]
        omega
theorem bl_le {x : Nat} (k : Nat) (h : x < 18446744073709551616) : Go.Lib.bitLen x ≤ k ↔ x < 2 ^ k := bl_aux 64 k x (by simpa using h)
def Gb3 : List (FuncId × Sp) := (34, pureS gLen64) :: Gb2
theorem Gb3_ok : CtxOk Try.prog Gb3 := ctx_cons (enter_of Try.func34 (by kernel_rfl) (by kernel_rfl)) spLen64 Gb2_ok
end Go.Proofs.Ytecgigeahkijaaa
