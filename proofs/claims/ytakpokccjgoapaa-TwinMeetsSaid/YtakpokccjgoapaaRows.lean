/-
  No cell of these rows narrows 'for every input' (looked for: loops, veiled, ifaces, maps, wideKeys, modest, calm, conditions, laid).
  DERIVED. THE GIVEN ROWS OF THIS SEAT. 4 by the template 'for every input the law returns true; each argument reads behind the call as it read before'; 0 by the template 'total and deterministic' (their statements: YtakpokccjgoapaaTotals.lean).
  GIVEN WITH THE SEED: the statements are not yours to turn. If you find one false, say at which input.
  Laid BY PROGRAM, IN A SANDBOX (cutbox-rows.mjs): the forced cells as the released guide's own fill.sh prints them over the translation 06186ab2cc8bcb46… (all of the seat's roots in one cut). By AI agents, Wed Nov 11 2026. No macro, syntax, notation, axiom, sorry.
-/
import Derived.Test.YtakpokccjgoapaaChecked
import GoSem.Claim
import GoSem.ClaimJoined
import GoSem.ClaimMapViews
import Derived.JoinedTies
import Derived.KernelRfl
namespace Go.Proofs.Ytakpokccjgoapaa
/- THE CELL 'sum', in the pinned program and in every row, IS THE sha256 OF THE DUMP (.gsa) THAT YtakpokccjgoapaaProg.lean LOADS. Nothing in Lean hashes anything: it is a label: what it is worth is what the hold of that sum in a sandbox is worth. -/
noncomputable def Try.pinned : Pinned := { name := "ytakpokccjgoapaa", sum := "06186ab2cc8bcb463d009b1da910817d2295b908f4c98875fd07eb518be467f3", checked := Try.checked }
namespace Rows
def none {H : Type} : Left H := { results := [], args := [] }

/-- 'pacemakerlaw10.TwinPlays': WHATEVER THE INPUT: true; the input reads as it did. -/
def twinPlaysSpec : ChangeSpec := { name := "twinPlays", fn := fun _ => fun
  | [d1, d2] => { results := [.lit (.bool true)], args := [d1, d2] }
  | _ => none }
def twinPlaysRow : OpenClaim := { program := "ytakpokccjgoapaa", sum := "06186ab2cc8bcb463d009b1da910817d2295b908f4c98875fd07eb518be467f3", func := "pacemaker/pacemakerlaw10.TwinPlays", spec := "twinPlays", apart := false }
def TwinPlaysSaid : Prop := twinPlaysRow.holds Try.pinned (OpenSpec.ofChange twinPlaysSpec)

/-- ITS FALSE NEIGHBOUR: 'it returns false'. Refute it at one input. -/
def twinPlaysWrong : ChangeSpec := { name := "twinPlays", fn := fun _ => fun
  | [d1, d2] => { results := [.lit (.bool false)], args := [d1, d2] }
  | _ => none }
def TwinPlaysWrongFalsely : Prop := twinPlaysRow.holds Try.pinned (OpenSpec.ofChange twinPlaysWrong)

/-- 'pacemakerlaw10.TwinMeets': WHATEVER THE INPUT: true; the input reads as it did. -/
def twinMeetsSpec : ChangeSpec := { name := "twinMeets", fn := fun _ => fun
  | [d1, d2] => { results := [.lit (.bool true)], args := [d1, d2] }
  | _ => none }
def twinMeetsRow : OpenClaim := { program := "ytakpokccjgoapaa", sum := "06186ab2cc8bcb463d009b1da910817d2295b908f4c98875fd07eb518be467f3", func := "pacemaker/pacemakerlaw10.TwinMeets", spec := "twinMeets", apart := false }
def TwinMeetsSaid : Prop := twinMeetsRow.holds Try.pinned (OpenSpec.ofChange twinMeetsSpec)

/-- ITS FALSE NEIGHBOUR: 'it returns false'. Refute it at one input. -/
def twinMeetsWrong : ChangeSpec := { name := "twinMeets", fn := fun _ => fun
  | [d1, d2] => { results := [.lit (.bool false)], args := [d1, d2] }
  | _ => none }
def TwinMeetsWrongFalsely : Prop := twinMeetsRow.holds Try.pinned (OpenSpec.ofChange twinMeetsWrong)

/-- 'pacemakerlaw10.TwinBest': WHATEVER THE INPUT: true; the input reads as it did. -/
def twinBestSpec : ChangeSpec := { name := "twinBest", fn := fun _ => fun
  | [d1, d2] => { results := [.lit (.bool true)], args := [d1, d2] }
  | _ => none }
def twinBestRow : OpenClaim := { program := "ytakpokccjgoapaa", sum := "06186ab2cc8bcb463d009b1da910817d2295b908f4c98875fd07eb518be467f3", func := "pacemaker/pacemakerlaw10.TwinBest", spec := "twinBest", apart := false }
def TwinBestSaid : Prop := twinBestRow.holds Try.pinned (OpenSpec.ofChange twinBestSpec)

/-- ITS FALSE NEIGHBOUR: 'it returns false'. Refute it at one input. -/
def twinBestWrong : ChangeSpec := { name := "twinBest", fn := fun _ => fun
  | [d1, d2] => { results := [.lit (.bool false)], args := [d1, d2] }
  | _ => none }
def TwinBestWrongFalsely : Prop := twinBestRow.holds Try.pinned (OpenSpec.ofChange twinBestWrong)

/-- 'pacemakerlaw10.TwinNobody': WHATEVER THE INPUT: true; the input reads as it did. -/
def twinNobodySpec : ChangeSpec := { name := "twinNobody", fn := fun _ => fun
  | [d1, d2] => { results := [.lit (.bool true)], args := [d1, d2] }
  | _ => none }
def twinNobodyRow : OpenClaim := { program := "ytakpokccjgoapaa", sum := "06186ab2cc8bcb463d009b1da910817d2295b908f4c98875fd07eb518be467f3", func := "pacemaker/pacemakerlaw10.TwinNobody", spec := "twinNobody", apart := false }
def TwinNobodySaid : Prop := twinNobodyRow.holds Try.pinned (OpenSpec.ofChange twinNobodySpec)

/-- ITS FALSE NEIGHBOUR: 'it returns false'. Refute it at one input. -/
def twinNobodyWrong : ChangeSpec := { name := "twinNobody", fn := fun _ => fun
  | [d1, d2] => { results := [.lit (.bool false)], args := [d1, d2] }
  | _ => none }
def TwinNobodyWrongFalsely : Prop := twinNobodyRow.holds Try.pinned (OpenSpec.ofChange twinNobodyWrong)

/- THE SECOND FORM. 'bulk': how many values and letters a reading holds, each counted each time it is reached (what is shared counts as often as it is met; a slice's spare places count too). A statement '..UptoSaid' is the law's where the arguments, and the package variables that the reading takes, are together of bulk at most 1048576: NARROWER than '..Said'. Prove '..Said' where nothing that the law and all that it calls make is longer than what came in: it says more and counts as full. Else prove '..UptoSaid'. A law counts once. -/
mutual
def uptoBulk {H : Type} : DataW H → Nat
  | .lit (.string bytes) => bytes.length + 1
  | .lit _ => 1
  | .nil => 1
  | .ptr d => uptoBulk d + 1
  | .slice elems spare => uptoBulkAll elems + uptoBulkAll spare + 1
  | .agg parts => uptoBulkAll parts + 1
  | .iface _ d => uptoBulk d + 1
  | .map entries => uptoBulkEntries entries + 1
  | .held _ => 1
def uptoBulkAll {H : Type} : List (DataW H) → Nat
  | [] => 0
  | d :: r => uptoBulk d + uptoBulkAll r
def uptoBulkEntries {H : Type} : List (Lit × DataW H) → Nat
  | [] => 0
  | x :: r => uptoBulkEntry x + uptoBulkEntries r
def uptoBulkEntry {H : Type} : Lit × DataW H → Nat
  | (.string bytes, d) => bytes.length + uptoBulk d + 1
  | (_, d) => uptoBulk d + 1
 end
def uptoSmall : (H : Type) → List (DataW H) → Bool := fun _ ds => decide (uptoBulkAll ds ≤ 1048576)
def OpenSpec.upto (s : _root_.Go.ChangeSpec) : _root_.Go.OpenSpec := { _root_.Go.OpenSpec.ofChange s with cond := some uptoSmall }

/-- 'pacemakerlaw10.TwinPlays', WHERE WHAT IT READS IS OF BULK AT MOST 1048576: true; the input reads as it did. -/
def twinPlaysUptoRow : OpenClaim := { program := "ytakpokccjgoapaa", sum := "06186ab2cc8bcb463d009b1da910817d2295b908f4c98875fd07eb518be467f3", func := "pacemaker/pacemakerlaw10.TwinPlays", spec := "twinPlays", apart := false, narrowed := true }
def TwinPlaysUptoSaid : Prop := twinPlaysUptoRow.holds Try.pinned (OpenSpec.upto twinPlaysSpec)

/-- 'pacemakerlaw10.TwinMeets', WHERE WHAT IT READS IS OF BULK AT MOST 1048576: true; the input reads as it did. -/
def twinMeetsUptoRow : OpenClaim := { program := "ytakpokccjgoapaa", sum := "06186ab2cc8bcb463d009b1da910817d2295b908f4c98875fd07eb518be467f3", func := "pacemaker/pacemakerlaw10.TwinMeets", spec := "twinMeets", apart := false, narrowed := true }
def TwinMeetsUptoSaid : Prop := twinMeetsUptoRow.holds Try.pinned (OpenSpec.upto twinMeetsSpec)

/-- 'pacemakerlaw10.TwinBest', WHERE WHAT IT READS IS OF BULK AT MOST 1048576: true; the input reads as it did. -/
def twinBestUptoRow : OpenClaim := { program := "ytakpokccjgoapaa", sum := "06186ab2cc8bcb463d009b1da910817d2295b908f4c98875fd07eb518be467f3", func := "pacemaker/pacemakerlaw10.TwinBest", spec := "twinBest", apart := false, narrowed := true }
def TwinBestUptoSaid : Prop := twinBestUptoRow.holds Try.pinned (OpenSpec.upto twinBestSpec)

/-- 'pacemakerlaw10.TwinNobody', WHERE WHAT IT READS IS OF BULK AT MOST 1048576: true; the input reads as it did. -/
def twinNobodyUptoRow : OpenClaim := { program := "ytakpokccjgoapaa", sum := "06186ab2cc8bcb463d009b1da910817d2295b908f4c98875fd07eb518be467f3", func := "pacemaker/pacemakerlaw10.TwinNobody", spec := "twinNobody", apart := false, narrowed := true }
def TwinNobodyUptoSaid : Prop := twinNobodyUptoRow.holds Try.pinned (OpenSpec.upto twinNobodySpec)

end Rows
end Go.Proofs.Ytakpokccjgoapaa
