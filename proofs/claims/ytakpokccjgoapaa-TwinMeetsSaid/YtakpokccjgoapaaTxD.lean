/- Rows of items: what lies in memory. No condition. -/
import Derived.Test.YtakpokccjgoapaaTwW
namespace Go.Proofs.Ytakpokccjgoapaa
set_option linter.unusedVariables false
set_option linter.unusedSimpArgs false
open Go.RowKit E

structure It where
  r : Nat → Int
  x : Nat → Int
abbrev gIt (L : It) : Nat → List At := fun k => [.val (.int .u64 (L.r k)), .val (.int .i64 (L.x k))]
def itOf (g : Nat → List At) : It := ⟨fun k => cellJ (g k) 0, fun k => cellJ (g k) 1⟩
theorem it_g (L : It) : itOf (gIt L) = L := rfl
/-- The first place of a greater rank among so many; so many: there is none. -/
def It.pos (L : It) (r : Int) : Nat → Nat
  | 0 => 0
  | k + 1 => if It.pos L r k < k then It.pos L r k else if r < L.r k then k else k + 1
def It.ins (L : It) (p : Nat) (r x : Int) : It :=
  ⟨fun j => if j < p then L.r j else if j = p then r else L.r (j - 1), fun j => if j < p then L.x j else if j = p then x else L.x (j - 1)⟩
def It.rest (L : It) : It := ⟨fun j => L.r (j + 1), fun j => L.x (j + 1)⟩
theorem It.pos_le (L : It) (r : Int) : ∀ k, L.pos r k ≤ k
  | 0 => Nat.le_refl _
  | k + 1 => by
    have := It.pos_le L r k
    unfold It.pos
    split
    · omega
    · split <;> omega
theorem It.pos_put {L : It} {r : Int} {k : Nat} (h : L.pos r k < k) : L.pos r (k + 1) = L.pos r k := if_pos h
theorem It.pos_hit {L : It} {r : Int} {k : Nat} (h : ¬ L.pos r k < k) (hr : r < L.r k) : L.pos r (k + 1) = k := by
  show (if _ then _ else _) = _
  rw [if_neg h, if_pos hr]
theorem It.pos_miss {L : It} {r : Int} {k : Nat} (h : ¬ L.pos r k < k) (hr : ¬ r < L.r k) : L.pos r (k + 1) = k + 1 := by
  show (if _ then _ else _) = _
  rw [if_neg h, if_neg hr]
end Go.Proofs.Ytakpokccjgoapaa
