/- TwinPlays: what lies in memory. No condition. -/
import Derived.Test.YtakpokccjgoapaaTxS
namespace Go.Proofs.Ytakpokccjgoapaa
set_option linter.unusedVariables false
set_option linter.unusedSimpArgs false
open Go.RowKit E
structure TA where
  kd : Nat → Int
  r : Nat → Int
  x : Nat → Int
abbrev gTA (A : TA) : Nat → List At := fun k => [.val (.int .u8 (A.kd k)), .val (.int .u64 (A.r k)), .val (.int .i64 (A.x k))]
abbrev tpS (m c : Int) (len n i : Nat) (A : TA) (T : Tw Int) (L : It) : St :=
  mkSt 128 [(0, iA m), (5, .nv (.one (.ptr 1 0))), (8, .nv (.one (.ptr 3 0))), (56, .nv (.one (.own 0))), (57, iA len), (58, iA i)]
    [.ro 3 len (gTA A), .box 53 [.own 2, .val (.int .u64 c), .val (.int .i64 m)], .row 67 3 n (gTi T), .box lB [.own 4], rwIt n L]
end Go.Proofs.Ytakpokccjgoapaa
