/- invert: rows of numbers, the merge's rounds. No condition. -/
import Derived.Test.YtffkakkijifoaaaED
namespace Go.Proofs.Ytffkakkijifoaaa
set_option linter.unusedVariables false
set_option linter.unusedSimpArgs false
open Go.RowKit E
abbrev gI (F : Nat → Int) : Nat → List At := fun k => [.val (.int .i64 (F k))]
abbrev gU (F : Nat → Int) : Nat → List At := fun k => [.val (.int .u64 (F k))]
/-- The three rows that merge writes. -/
structure Ms where
  p : Nat → Int
  r : Nat → Int
  d : Nat → Int
/-- Is the next one out of the first half? -/
def tkA (L R : Nat → Int) (x h n i a : Nat) : Bool := decide (n - h ≤ i - a) || (decide (a < h) && decide (L (R (x + a)).toNat ≤ L (R (x + h + (i - a))).toNat))
def putF (F : Nat → Int) (j : Nat) (v : Int) : Nat → Int := fun k => if k = j then v else F k
structure Mg where
  a : Nat
  p : Nat → Int
  d : Nat → Int
def mgs (L R : Nat → Int) (x h n : Nat) (p d : Nat → Int) : Nat → Mg
  | 0 => ⟨0, p, d⟩
  | i + 1 =>
    let s := mgs L R x h n p d i
    if tkA L R x h n i s.a then ⟨s.a + 1, putF s.p (x + i) (R (x + s.a)), s.d⟩
    else ⟨s.a, putF s.p (x + i) (R (x + h + (i - s.a))), putF s.d (R (x + h + (i - s.a))).toNat (IntKind.wrap .i64 (s.d (R (x + h + (i - s.a))).toNat + ((h - s.a : Nat) : Int)))⟩
def ovr (p r : Nat → Int) (x n : Nat) : Nat → Int := fun k => if x ≤ k ∧ k < x + n then p k else r k
def mrg (L : Nat → Int) : Nat → Nat → Nat → Ms → Ms
  | 0, _, _, s => s
  | K + 1, x, n, s => if n < 2 then s else
    let s1 := mrg L K x (n / 2) s
    let s2 := mrg L K (x + n / 2) (n - n / 2) s1
    let R := ovr s2.p s2.r x n
    let m := mgs L R x (n / 2) n s2.p s2.d n
    ⟨m.p, R, m.d⟩
/-- Places are below N. -/
def inN (N : Nat) (p : Nat → Int) : Prop := ∀ k, k < N → 0 ≤ p k ∧ p k < N
end Go.Proofs.Ytffkakkijifoaaa
