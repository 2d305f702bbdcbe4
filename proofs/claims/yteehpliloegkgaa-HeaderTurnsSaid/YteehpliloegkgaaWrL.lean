/- Runs of Go code, as printed by a program: no condition beyond those that each states. -/
import Derived.Test.YteehpliloegkgaaWrF
import Derived.Test.YteehpliloegkgaaChecked
import Derived.KernelRfl
namespace Go.Proofs.Yteehpliloegkgaa
set_option linter.unusedVariables false
set_option linter.unusedSimpArgs false
set_option maxRecDepth 100000
open Go.RowKit E
end Go.Proofs.Yteehpliloegkgaa

/- wire: fields, their widths, what is wrong with them, their bytes: plain functions, and width as a specification. No condition. -/
namespace Go.Proofs.Yteehpliloegkgaa
set_option linter.unusedVariables false
set_option linter.unusedSimpArgs false
open Go.RowKit E

/-- A field. -/
structure Fl where
  k : Int
  n : Int
  s : ByteArray
abbrev gF (L : Nat → Fl) : Nat → List At := fun j => [.val (.int .i64 (L j).k), .val (.int .u64 (L j).n), .val (.string (L j).s)]
def cellZ (l : List At) (j : Nat) : Int := match l[j]? with | some (.val (.int _ n)) => n | _ => 0
def cellY (l : List At) (j : Nat) : ByteArray := match l[j]? with | some (.val (.string s)) => s | _ => .empty
def flOf (g : Nat → List At) : Nat → Fl := fun j => ⟨cellZ (g j) 0, cellZ (g j) 1, cellY (g j) 2⟩
def Fl.wf (f : Fl) : Prop := 0 ≤ f.n ∧ f.n < 18446744073709551616
def widthZ (k : Int) : Int := if k = 1 then 1 else if k = 2 then 2 else if k = 3 then 4 else if k = 4 then 8 else 0
def gWidth : List SV → Option (SV × List Prop)
  | [.nv (.one (.val (.int .i64 k)))] => some (iA (widthZ k), [])
  | _ => none
def Gb4 : List (FuncId × Sp) := Gb3
theorem Gb4_ok : CtxOk Try.prog Gb4 := Gb3_ok
theorem str_empty (s : ByteArray) : s = .empty ↔ s.size = 0 := by
  constructor
  · intro h; subst h; rfl
  · intro h; exact ByteArray.ext (Array.eq_empty_of_size_eq_zero h)
theorem str_ne {s : ByteArray} (h : s.size ≠ 0) : (s.toList == ByteArray.toList ⟨#[]⟩) = false := toList_ne (fun e => h (by rw [e]; rfl))
theorem str_eq {s : ByteArray} (h : s.size = 0) : (s.toList == ByteArray.toList ⟨#[]⟩) = true := by
  rw [(str_empty s).2 h]; exact toList_same _
theorem widthZ_bd (k : Int) : 0 ≤ widthZ k ∧ widthZ k ≤ 8 := by
  unfold widthZ; (repeat' split) <;> omega
/-- What is wrong with a field. -/
def ckZ (f : Fl) : Int :=
  if widthZ f.k = 0 ∧ f.k ≠ 5 ∧ f.k ≠ 6 then 6
  else if (f.k = 6 ∧ f.n ≠ 0) ∨ (f.k ≠ 6 ∧ f.s.size ≠ 0) then 6
  else if widthZ f.k > 0 ∧ ¬ f.n < (2 ^ (8 * (widthZ f.k).toNat) : Nat) then 5
  else if f.s.size > 65535 then 4 else 0
/-- A number's bytes, as few as it takes: at most so many and one. -/
def varL : Nat → Int → List Int
  | 0, n => [n]
  | f + 1, n => if 128 ≤ n then (n % 128 + 128) :: varL f (n / 128) else [n]
/-- So many bytes of a number, the highest first. -/
def hiL : Nat → Int → List Int
  | 0, _ => []
  | w + 1, n => hiL w (n / 256) ++ [n % 256]
/-- A field's bytes. -/
def putL (f : Fl) : List Int :=
  if f.k = 5 then varL 9 f.n else if f.k = 6 then varL 9 f.s.size ++ ints f.s else hiL (widthZ f.k).toNat f.n
end Go.Proofs.Yteehpliloegkgaa

/- Runs of Go code, as printed by a program: no condition beyond those that each states. -/
namespace Go.Proofs.Yteehpliloegkgaa
set_option linter.unusedVariables false
set_option linter.unusedSimpArgs false
set_option maxRecDepth 100000
open Go.RowKit E
end Go.Proofs.Yteehpliloegkgaa

/- wire: check as a specification; bytes of numbers. No condition. -/
namespace Go.Proofs.Yteehpliloegkgaa
set_option linter.unusedVariables false
set_option linter.unusedSimpArgs false
open Go.RowKit E

def gCheck : List SV → Option (SV × List Prop)
  | [.nv (.agg [.val (.int .i64 k), .val (.int .u64 n), .val (.string s)])] => some (iA (ckZ ⟨k, n, s⟩), [0 ≤ n, n ≤ 18446744073709551615])
  | _ => none
def Gb5 : List (FuncId × Sp) := Gb4
theorem Gb5_ok : CtxOk Try.prog Gb5 := Gb4_ok
theorem varL_len : ∀ f n, (varL f n).length ≤ f + 1
  | 0, n => by unfold varL; simp
  | f + 1, n => by unfold varL; split <;> simp; exact varL_len f _
theorem varL_pos : ∀ f n, 1 ≤ (varL f n).length
  | 0, n => by unfold varL; simp
  | f + 1, n => by unfold varL; split <;> simp
theorem varL_go {f : Nat} {n : Int} (h : 128 ≤ n) : varL (f + 1) n = (n % 128 + 128) :: varL f (n / 128) := by rw [varL, if_pos h]
theorem varL_end {f : Nat} {n : Int} (h : ¬ 128 ≤ n) : varL f n = [n] := by cases f with
  | zero => rfl
  | succ f => rw [varL, if_neg h]
end Go.Proofs.Yteehpliloegkgaa

/- Runs of Go code, as printed by a program: no condition beyond those that each states. -/
namespace Go.Proofs.Yteehpliloegkgaa
set_option linter.unusedVariables false
set_option linter.unusedSimpArgs false
set_option maxRecDepth 100000
open Go.RowKit E
end Go.Proofs.Yteehpliloegkgaa

/- wire: putVar as a specification. No condition. -/
namespace Go.Proofs.Yteehpliloegkgaa
set_option linter.unusedVariables false
set_option linter.unusedSimpArgs false
open Go.RowKit E

theorem varL_last (f : Nat) (v : Int) : (varL f v).dropLast ++ [(varL f v).getLastD 0] = varL f v := by
  have h := varL_pos f v
  have hne : varL f v ≠ [] := by intro e; rw [e] at h; simp at h
  rw [List.getLastD_eq_getLast?, List.getLast?_eq_some_getLast hne]
  exact List.dropLast_concat_getLast hne
def Gb6 : List (FuncId × Sp) := Gb5
theorem Gb6_ok : CtxOk Try.prog Gb6 := Gb5_ok
end Go.Proofs.Yteehpliloegkgaa
