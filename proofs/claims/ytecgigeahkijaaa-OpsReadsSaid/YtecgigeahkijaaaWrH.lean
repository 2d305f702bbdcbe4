/- wire: fields, their widths, what is wrong with them, their bytes: plain functions, and width as a specification. No condition. -/
import Derived.Test.YtecgigeahkijaaaWrG
namespace Go.Proofs.Ytecgigeahkijaaa
set_option linter.unusedVariables false
set_option linter.unusedSimpArgs false
open Go.RowKit E

/-- A field. -/
structure Fl where
  k : Int
  n : Int
  s : ByteArray
abbrev gF (L : Nat → Fl) : Nat → List At := fun j => [.val (.int .i64 (L j).k), .val (.int .u64 (L j).n), .val (.string (L j).s)]
def cellZ (l : List At) (j : Nat) : Int := match l[j]? with | some (.val (.int _ n)) => n | _ => 0
def cellY (l : List At) (j : Nat) : ByteArray := match l[j]? with | some (.val (.string s)) => s | _ => .empty
def flOf (g : Nat → List At) : Nat → Fl := fun j => ⟨cellZ (g j) 0, cellZ (g j) 1, cellY (g j) 2⟩
def Fl.wf (f : Fl) : Prop := 0 ≤ f.n ∧ f.n < 18446744073709551616
def widthZ (k : Int) : Int := if k = 1 then 1 else if k = 2 then 2 else if k = 3 then 4 else if k = 4 then 8 else 0
def gWidth : List SV → Option (SV × List Prop)
  | [.nv (.one (.val (.int .i64 k)))] => some (iA (widthZ k), [])
  | _ => none
theorem spWidth : SpOk Try.prog 33 (pureS gWidth) := pureS_ok (by
  intro args r obl h ho
  unfold gWidth at h
  split at h
  · rename_i k
    simp only [Option.some.injEq, Prod.mk.injEq] at h
    obtain ⟨rfl, rfl⟩ := h
    refine ⟨rfl, rfl, ?_⟩
    unfold widthZ
    split
    · rename_i e; subst e; exact wd_1
    · split
      · rename_i e; subst e; exact wd_2
      · split
        · rename_i e; subst e; exact wd_3
        · split
          · rename_i e; subst e; exact wd_4
          · by_cases q : k < 1
            · exact wd_l k q
            · exact wd_h k (by omega)
  · cases h)
def Gb4 : List (FuncId × Sp) := (33, pureS gWidth) :: Gb3
theorem Gb4_ok : CtxOk Try.prog Gb4 := ctx_cons (enter_of Try.func33 (by kernel_rfl) (by kernel_rfl)) spWidth Gb3_ok
theorem str_empty (s : ByteArray) : s = .empty ↔ s.size = 0 := by
  constructor
  · intro h; subst h; rfl
  · intro h; exact ByteArray.ext (Array.eq_empty_of_size_eq_zero h)
theorem str_ne {s : ByteArray} (h : s.size ≠ 0) : (s.toList == ByteArray.toList ⟨#[]⟩) = false := toList_ne (fun e => h (by rw [e]; rfl))
theorem str_eq {s : ByteArray} (h : s.size = 0) : (s.toList == ByteArray.toList ⟨#[]⟩) = true := by
  rw [(str_empty s).2 h]; exact toList_same _
theorem widthZ_bd (k : Int) : 0 ≤ widthZ k ∧ widthZ k ≤ 8 := by
  unfold widthZ; (repeat' split) <;> omega
/-- What is wrong with a field. -/
def ckZ (f : Fl) : Int :=
  if widthZ f.k = 0 ∧ f.k ≠ 5 ∧ f.k ≠ 6 then 6
  else if (f.k = 6 ∧ f.n ≠ 0) ∨ (f.k ≠ 6 ∧ f.s.size ≠ 0) then 6
  else if widthZ f.k > 0 ∧ ¬ f.n < (2 ^ (8 * (widthZ f.k).toNat) : Nat) then 5
  else if f.s.size > 65535 then 4 else 0
/-- A number's bytes, as few as it takes: at most so many and one. -/
def varL : Nat → Int → List Int
  | 0, n => [n]
  | f + 1, n => if 128 ≤ n then (n % 128 + 128) :: varL f (n / 128) else [n]
/-- So many bytes of a number, the highest first. -/
def hiL : Nat → Int → List Int
  | 0, _ => []
  | w + 1, n => hiL w (n / 256) ++ [n % 256]
/-- A field's bytes. -/
def putL (f : Fl) : List Int :=
  if f.k = 5 then varL 9 f.n else if f.k = 6 then varL 9 f.s.size ++ ints f.s else hiL (widthZ f.k).toNat f.n
end Go.Proofs.Ytecgigeahkijaaa
