/- Twins: what lies in memory, and what their functions do with it. No condition. -/
import Derived.Test.YtakpokccjgoapaaEC
namespace Go.Proofs.Ytakpokccjgoapaa
set_option linter.unusedVariables false
set_option linter.unusedSimpArgs false
open Go.RowKit E

/-- Entries: rank, when it came, thing. -/
structure Tw (α : Type) where
  r : Nat → Int
  c : Nat → Int
  x : Nat → α
abbrev gTi (T : Tw Int) : Nat → List At := fun k => [.val (.int .u64 (T.r k)), .val (.int .u64 (T.c k)), .val (.int .i64 (T.x k))]
abbrev gTs (T : Tw ByteArray) : Nat → List At := fun k => [.val (.int .u64 (T.r k)), .val (.int .u64 (T.c k)), .val (.string (T.x k))]
/-- The j-th number of a list of cells. -/
def cellJ : List At → Nat → Int
  | [], _ => 0
  | .val (.int _ n) :: _, 0 => n
  | _ :: _, 0 => 0
  | _ :: l, j + 1 => cellJ l j
def cellS : List At → Nat → ByteArray
  | [], _ => ByteArray.empty
  | .val (.string n) :: _, 0 => n
  | _ :: _, 0 => ByteArray.empty
  | _ :: l, j + 1 => cellS l j
def twI (g : Nat → List At) : Tw Int := ⟨fun k => cellJ (g k) 0, fun k => cellJ (g k) 1, fun k => cellJ (g k) 2⟩
def twS (g : Nat → List At) : Tw ByteArray := ⟨fun k => cellJ (g k) 0, fun k => cellJ (g k) 1, fun k => cellS (g k) 2⟩

def aheadB (a b c d : Int) : Bool := decide (a < c) || (decide (a = c) && decide (b < d))
variable {α : Type}
def Tw.ah (T : Tw α) (i k : Nat) : Bool := aheadB (T.r i) (T.c i) (T.r k) (T.c k)
def Tw.swap (T : Tw α) (i k : Nat) : Tw α :=
  ⟨fun j => if j = k then T.r i else if j = i then T.r k else T.r j, fun j => if j = k then T.c i else if j = i then T.c k else T.c j, fun j => if j = k then T.x i else if j = i then T.x k else T.x j⟩
def Tw.put (T : Tw α) (i : Nat) (r c : Int) (x : α) : Tw α :=
  ⟨fun j => if j = i then r else T.r j, fun j => if j = i then c else T.c j, fun j => if j = i then x else T.x j⟩
/-- The place of a pair's second entry among n. -/
def hiP (n p : Nat) : Nat := if 2 * p + 1 < n then 2 * p + 1 else n - 1
theorem hiMin {p n : Nat} (hp : p ≤ 100000) (h0 : 0 < n) (hn : n ≤ 100000) :
    List.foldl (fun x y => if y < x then y else x) (IntKind.wrap IntKind.i64 (IntKind.wrap IntKind.i64 ((2 : Int) * (↑p : Int)) + (1 : Int))) [IntKind.wrap IntKind.i64 ((↑n : Int) - (1 : Int))] = ((hiP n p : Nat) : Int) := by
  rw [show IntKind.wrap IntKind.i64 ((2 : Int) * (↑p : Int)) = 2 * p from w64 rfl (by omega), show IntKind.wrap IntKind.i64 ((2 : Int) * (↑p : Int) + 1) = 2 * p + 1 from w64 rfl (by omega),
    show IntKind.wrap IntKind.i64 ((↑n : Int) - (1 : Int)) = n - 1 from w64 rfl (by omega)]
  simp only [List.foldl]
  unfold hiP
  split <;> split <;> omega
theorem hiP_lt {p n : Nat} (h0 : 0 < n) : hiP n p < n := by unfold hiP; split <;> omega
end Go.Proofs.Ytakpokccjgoapaa
