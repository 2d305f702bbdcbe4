/- Ranks: the statements' example, and the contexts of the statements. No condition. -/
import Derived.Test.YtkgkelfdmkginaaRnI
namespace Go.Proofs.Ytkgkelfdmkginaa
set_option linter.unusedVariables false
set_option linter.unusedSimpArgs false
open Go.RowKit E

def gLives : List SV → Option (SV × List Prop)
  | [] => some (bA true, [])
  | _ => none
theorem spLives : SpOk Try.prog 7 (pureS gLives) := pureS_ok (by
  intro args r obl h ho
  unfold gLives at h
  split at h
  · simp only [Option.some.injEq, Prod.mk.injEq] at h
    obtain ⟨rfl, rfl⟩ := h
    exact ⟨rfl, rfl, lives_any⟩
  · cases h)
def Glk : List (FuncId × Sp) := (7, pureS gLives) :: Gvk
theorem Glk_ok : CtxOk Try.prog Glk := ctx_cons (enter_of Try.func7 (by kernel_rfl) (by kernel_rfl)) spLives Gvk_ok
def Gle : List (FuncId × Sp) := (7, pureS gLives) :: Gve
theorem Gle_ok : CtxOk Try.prog Gle := ctx_cons (enter_of Try.func7 (by kernel_rfl) (by kernel_rfl)) spLives Gve_ok
def Gln : List (FuncId × Sp) := (7, pureS gLives) :: Gvn
theorem Gln_ok : CtxOk Try.prog Gln := ctx_cons (enter_of Try.func7 (by kernel_rfl) (by kernel_rfl)) spLives Gvn_ok

/-- Acts: what is done, of which flow, how many bytes, how much later; tags. -/
structure Ac where
  kd : Nat → Int
  id : Nat → Int
  sz : Nat → Int
  la : Nat → Int
  ta : Nat → Option Addr
  tl : Nat → Nat
  tc : Nat → Nat
abbrev gAc (A : Ac) : Nat → List At := fun k => [.val (.int .u8 (A.kd k)), .val (.int .u32 (A.id k)), .val (.int .u64 (A.sz k)), .val (.int .u32 (A.la k)), .val (.slice (A.ta k) (A.tl k) (A.tc k))]
theorem flOf_id (F : Fl) : (flOf (gFl F)).id = F.id := rfl
theorem nextE_ok (F : Fl) (x : Int) (n : Nat) : (nextE (flOf (gFl F)) x n == 0) = decide (idx (flOf (gFl F)).id x n ≥ 0) := by
  have := idx_bd (flOf (gFl F)).id x n
  unfold nextE
  split
  · rename_i h; rw [decide_eq_false (by omega)]; rfl
  · rename_i h; rw [decide_eq_true (by omega)]; rfl
abbrev gB (M : Nat → Bool) : Nat → List At := fun k => [.val (.bool (M k))]
abbrev risesS (k : Int) (n len : Nat) (F : Fl) (A : Ac) (i : Nat) (now vv v : Int) (T L : Nat → Int) (M : Nat → Bool) : St :=
  mkSt 136 [(1, .nv (.one (.own 0))), (7, iA k), (8, .nv (.one (.ptr 2 0))), (10, .nv (.one (.own 5))), (11, .nv (.one (.own 6))), (12, uA now), (13, uA vv), (46, .nv (.one (.own 1))), (47, iA len), (48, iA i)]
    [.ro 5 n (gFl F), .ro 5 len (gAc A), .box 60 [.val (.int .i64 k), .own 3, .own 4, .val (.int .u64 v)], .row 56 5 n (gFl F), .row 31 1 n (gU64 T), .row 31 1 n (gU64 L), .row 4 1 n (gB M)]
end Go.Proofs.Ytkgkelfdmkginaa
