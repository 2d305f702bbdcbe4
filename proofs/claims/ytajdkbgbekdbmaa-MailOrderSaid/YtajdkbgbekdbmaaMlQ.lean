/- mail: acts. No condition. -/
import Derived.Test.YtajdkbgbekdbmaaMlP
namespace Go.Proofs.Ytajdkbgbekdbmaa
set_option linter.unusedVariables false
set_option linter.unusedSimpArgs false
open Go.RowKit E
structure Ac35 where
  ki : Nat → Int
  n : Nat → Int
abbrev gA35 (A : Ac35) : Nat → List At := fun k => [.val (.int .u8 (A.ki k)), .val (.int .i64 (A.n k))]
end Go.Proofs.Ytajdkbgbekdbmaa
