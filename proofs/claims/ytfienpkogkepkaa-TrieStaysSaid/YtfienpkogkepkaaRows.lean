/-
  No cell of these rows narrows 'for every input' (looked for: loops, veiled, ifaces, maps, wideKeys, modest, calm, conditions, laid).
  DERIVED. THE GIVEN ROWS OF THIS SEAT. 3 by the template 'for every input the law returns true; each argument reads behind the call as it read before'; 0 by the template 'total and deterministic' (their statements: YtfienpkogkepkaaTotals.lean).
  GIVEN WITH THE SEED: the statements are not yours to turn. If you find one false, say at which input.
  Laid BY PROGRAM, IN A SANDBOX (cutbox-rows.mjs): the forced cells as the released guide's own fill.sh prints them over the translation 134e3a245982d7a7… (all of the seat's roots in one cut). By AI agents, Wed Nov 11 2026. No macro, syntax, notation, axiom, sorry.
-/
import Derived.Test.YtfienpkogkepkaaChecked
import GoSem.Claim
import GoSem.ClaimJoined
import GoSem.ClaimMapViews
import Derived.JoinedTies
import Derived.KernelRfl
namespace Go.Proofs.Ytfienpkogkepkaa
/- THE CELL 'sum', in the pinned program and in every row, IS THE sha256 OF THE DUMP (.gsa) THAT YtfienpkogkepkaaProg.lean LOADS. Nothing in Lean hashes anything: it is a label: what it is worth is what the hold of that sum in a sandbox is worth. -/
noncomputable def Try.pinned : Pinned := { name := "ytfienpkogkepkaa", sum := "134e3a245982d7a73c8108dc116a3495f8507735fbc943a8c05d275c2034e936", checked := Try.checked }
namespace Rows
def none {H : Type} : Left H := { results := [], args := [] }

/-- 'pacemakerlaw32.TrieStays': WHATEVER THE INPUT: true; the input reads as it did. -/
def trieStaysSpec : ChangeSpec := { name := "trieStays", fn := fun _ => fun
  | [d1, d2, d3] => { results := [.lit (.bool true)], args := [d1, d2, d3] }
  | _ => none }
def trieStaysRow : OpenClaim := { program := "ytfienpkogkepkaa", sum := "134e3a245982d7a73c8108dc116a3495f8507735fbc943a8c05d275c2034e936", func := "pacemaker/pacemakerlaw32.TrieStays", spec := "trieStays", recurses := true, apart := false }
def TrieStaysSaid : Prop := trieStaysRow.holds Try.pinned (OpenSpec.ofChange trieStaysSpec)

/-- ITS FALSE NEIGHBOUR: 'it returns false'. Refute it at one input. -/
def trieStaysWrong : ChangeSpec := { name := "trieStays", fn := fun _ => fun
  | [d1, d2, d3] => { results := [.lit (.bool false)], args := [d1, d2, d3] }
  | _ => none }
def TrieStaysWrongFalsely : Prop := trieStaysRow.holds Try.pinned (OpenSpec.ofChange trieStaysWrong)

/-- 'pacemakerlaw32.TriePlays': WHATEVER THE INPUT: true; the input reads as it did. -/
def triePlaysSpec : ChangeSpec := { name := "triePlays", fn := fun _ => fun
  | [d] => { results := [.lit (.bool true)], args := [d] }
  | _ => none }
def triePlaysRow : OpenClaim := { program := "ytfienpkogkepkaa", sum := "134e3a245982d7a73c8108dc116a3495f8507735fbc943a8c05d275c2034e936", func := "pacemaker/pacemakerlaw32.TriePlays", spec := "triePlays", recurses := true, apart := false }
def TriePlaysSaid : Prop := triePlaysRow.holds Try.pinned (OpenSpec.ofChange triePlaysSpec)

/-- ITS FALSE NEIGHBOUR: 'it returns false'. Refute it at one input. -/
def triePlaysWrong : ChangeSpec := { name := "triePlays", fn := fun _ => fun
  | [d] => { results := [.lit (.bool false)], args := [d] }
  | _ => none }
def TriePlaysWrongFalsely : Prop := triePlaysRow.holds Try.pinned (OpenSpec.ofChange triePlaysWrong)

/-- 'pacemakerlaw32.TrieNobody': WHATEVER THE INPUT: true; the input reads as it did. -/
def trieNobodySpec : ChangeSpec := { name := "trieNobody", fn := fun _ => fun
  | [d1, d2] => { results := [.lit (.bool true)], args := [d1, d2] }
  | _ => none }
def trieNobodyRow : OpenClaim := { program := "ytfienpkogkepkaa", sum := "134e3a245982d7a73c8108dc116a3495f8507735fbc943a8c05d275c2034e936", func := "pacemaker/pacemakerlaw32.TrieNobody", spec := "trieNobody", recurses := true, apart := false }
def TrieNobodySaid : Prop := trieNobodyRow.holds Try.pinned (OpenSpec.ofChange trieNobodySpec)

/-- ITS FALSE NEIGHBOUR: 'it returns false'. Refute it at one input. -/
def trieNobodyWrong : ChangeSpec := { name := "trieNobody", fn := fun _ => fun
  | [d1, d2] => { results := [.lit (.bool false)], args := [d1, d2] }
  | _ => none }
def TrieNobodyWrongFalsely : Prop := trieNobodyRow.holds Try.pinned (OpenSpec.ofChange trieNobodyWrong)

/- THE SECOND FORM. 'bulk': how many values and letters a reading holds, each counted each time it is reached (what is shared counts as often as it is met; a slice's spare places count too). A statement '..UptoSaid' is the law's where the arguments, and the package variables that the reading takes, are together of bulk at most 1048576: NARROWER than '..Said'. Prove '..Said' where nothing that the law and all that it calls make is longer than what came in: it says more and counts as full. Else prove '..UptoSaid'. A law counts once. -/
mutual
def uptoBulk {H : Type} : DataW H → Nat
  | .lit (.string bytes) => bytes.length + 1
  | .lit _ => 1
  | .nil => 1
  | .ptr d => uptoBulk d + 1
  | .slice elems spare => uptoBulkAll elems + uptoBulkAll spare + 1
  | .agg parts => uptoBulkAll parts + 1
  | .iface _ d => uptoBulk d + 1
  | .map entries => uptoBulkEntries entries + 1
  | .held _ => 1
def uptoBulkAll {H : Type} : List (DataW H) → Nat
  | [] => 0
  | d :: r => uptoBulk d + uptoBulkAll r
def uptoBulkEntries {H : Type} : List (Lit × DataW H) → Nat
  | [] => 0
  | x :: r => uptoBulkEntry x + uptoBulkEntries r
def uptoBulkEntry {H : Type} : Lit × DataW H → Nat
  | (.string bytes, d) => bytes.length + uptoBulk d + 1
  | (_, d) => uptoBulk d + 1
 end
def uptoSmall : (H : Type) → List (DataW H) → Bool := fun _ ds => decide (uptoBulkAll ds ≤ 1048576)
def OpenSpec.upto (s : _root_.Go.ChangeSpec) : _root_.Go.OpenSpec := { _root_.Go.OpenSpec.ofChange s with cond := some uptoSmall }

/-- 'pacemakerlaw32.TrieStays', WHERE WHAT IT READS IS OF BULK AT MOST 1048576: true; the input reads as it did. -/
def trieStaysUptoRow : OpenClaim := { program := "ytfienpkogkepkaa", sum := "134e3a245982d7a73c8108dc116a3495f8507735fbc943a8c05d275c2034e936", func := "pacemaker/pacemakerlaw32.TrieStays", spec := "trieStays", recurses := true, apart := false, narrowed := true }
def TrieStaysUptoSaid : Prop := trieStaysUptoRow.holds Try.pinned (OpenSpec.upto trieStaysSpec)

/-- 'pacemakerlaw32.TriePlays', WHERE WHAT IT READS IS OF BULK AT MOST 1048576: true; the input reads as it did. -/
def triePlaysUptoRow : OpenClaim := { program := "ytfienpkogkepkaa", sum := "134e3a245982d7a73c8108dc116a3495f8507735fbc943a8c05d275c2034e936", func := "pacemaker/pacemakerlaw32.TriePlays", spec := "triePlays", recurses := true, apart := false, narrowed := true }
def TriePlaysUptoSaid : Prop := triePlaysUptoRow.holds Try.pinned (OpenSpec.upto triePlaysSpec)

/-- 'pacemakerlaw32.TrieNobody', WHERE WHAT IT READS IS OF BULK AT MOST 1048576: true; the input reads as it did. -/
def trieNobodyUptoRow : OpenClaim := { program := "ytfienpkogkepkaa", sum := "134e3a245982d7a73c8108dc116a3495f8507735fbc943a8c05d275c2034e936", func := "pacemaker/pacemakerlaw32.TrieNobody", spec := "trieNobody", recurses := true, apart := false, narrowed := true }
def TrieNobodyUptoSaid : Prop := trieNobodyUptoRow.holds Try.pinned (OpenSpec.upto trieNobodySpec)

end Rows
end Go.Proofs.Ytfienpkogkepkaa
