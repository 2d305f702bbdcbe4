/- Pieces of a body. No condition. -/
import Derived.Test.YtajdkbgbekdbmaaMlB
namespace Go.Proofs.Ytajdkbgbekdbmaa
open Go.RowKit E
def seqL : Code → Code
  | .seq a _ => a
  | c => c
def seqR : Code → Code
  | .seq _ b => b
  | c => c
def snocV (b : List Value) (v : Value) : List Value := b ++ [v]
end Go.Proofs.Ytajdkbgbekdbmaa
