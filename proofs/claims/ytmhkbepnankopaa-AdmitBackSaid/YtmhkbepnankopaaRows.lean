/-
  No cell of these rows narrows 'for every input' (looked for: loops, veiled, ifaces, maps, wideKeys, modest, calm, conditions, laid).
  DERIVED. THE GIVEN ROWS OF THIS SEAT. 4 by the template 'for every input the law returns true; each argument reads behind the call as it read before'; 0 by the template 'total and deterministic' (their statements: YtmhkbepnankopaaTotals.lean).
  GIVEN WITH THE SEED: the statements are not yours to turn. If you find one false, say at which input.
  Laid BY PROGRAM, IN A SANDBOX (cutbox-rows.mjs): the forced cells as the released guide's own fill.sh prints them over the translation 52dddd9f1797ec36… (all of the seat's roots in one cut). By AI agents, Wed Nov 11 2026. No macro, syntax, notation, axiom, sorry.
-/
import Derived.Test.YtmhkbepnankopaaChecked
import GoSem.Claim
import GoSem.ClaimJoined
import GoSem.ClaimMapViews
import Derived.JoinedTies
import Derived.KernelRfl
namespace Go.Proofs.Ytmhkbepnankopaa
/- THE CELL 'sum', in the pinned program and in every row, IS THE sha256 OF THE DUMP (.gsa) THAT YtmhkbepnankopaaProg.lean LOADS. Nothing in Lean hashes anything: it is a label: what it is worth is what the hold of that sum in a sandbox is worth. -/
noncomputable def Try.pinned : Pinned := { name := "ytmhkbepnankopaa", sum := "52dddd9f1797ec36fb61e105b26a65b7d4d263f163ae57cfb3f7f5f083f5f26e", checked := Try.checked }
namespace Rows
def none {H : Type} : Left H := { results := [], args := [] }

/-- 'pacemakerlaw17.AdmitBack': WHATEVER THE INPUT: true; the input reads as it did. -/
def admitBackSpec : ChangeSpec := { name := "admitBack", fn := fun _ => fun
  | [d1, d2, d3] => { results := [.lit (.bool true)], args := [d1, d2, d3] }
  | _ => none }
def admitBackRow : OpenClaim := { program := "ytmhkbepnankopaa", sum := "52dddd9f1797ec36fb61e105b26a65b7d4d263f163ae57cfb3f7f5f083f5f26e", func := "pacemaker/pacemakerlaw17.AdmitBack", spec := "admitBack", apart := false }
def AdmitBackSaid : Prop := admitBackRow.holds Try.pinned (OpenSpec.ofChange admitBackSpec)

/-- ITS FALSE NEIGHBOUR: 'it returns false'. Refute it at one input. -/
def admitBackWrong : ChangeSpec := { name := "admitBack", fn := fun _ => fun
  | [d1, d2, d3] => { results := [.lit (.bool false)], args := [d1, d2, d3] }
  | _ => none }
def AdmitBackWrongFalsely : Prop := admitBackRow.holds Try.pinned (OpenSpec.ofChange admitBackWrong)

/-- 'pacemakerlaw17.AdmitNever': WHATEVER THE INPUT: true; the input reads as it did. -/
def admitNeverSpec : ChangeSpec := { name := "admitNever", fn := fun _ => fun
  | [d1, d2] => { results := [.lit (.bool true)], args := [d1, d2] }
  | _ => none }
def admitNeverRow : OpenClaim := { program := "ytmhkbepnankopaa", sum := "52dddd9f1797ec36fb61e105b26a65b7d4d263f163ae57cfb3f7f5f083f5f26e", func := "pacemaker/pacemakerlaw17.AdmitNever", spec := "admitNever", apart := false }
def AdmitNeverSaid : Prop := admitNeverRow.holds Try.pinned (OpenSpec.ofChange admitNeverSpec)

/-- ITS FALSE NEIGHBOUR: 'it returns false'. Refute it at one input. -/
def admitNeverWrong : ChangeSpec := { name := "admitNever", fn := fun _ => fun
  | [d1, d2] => { results := [.lit (.bool false)], args := [d1, d2] }
  | _ => none }
def AdmitNeverWrongFalsely : Prop := admitNeverRow.holds Try.pinned (OpenSpec.ofChange admitNeverWrong)

/-- 'pacemakerlaw17.AdmitPlays': WHATEVER THE INPUT: true; the input reads as it did. -/
def admitPlaysSpec : ChangeSpec := { name := "admitPlays", fn := fun _ => fun
  | [d1, d2] => { results := [.lit (.bool true)], args := [d1, d2] }
  | _ => none }
def admitPlaysRow : OpenClaim := { program := "ytmhkbepnankopaa", sum := "52dddd9f1797ec36fb61e105b26a65b7d4d263f163ae57cfb3f7f5f083f5f26e", func := "pacemaker/pacemakerlaw17.AdmitPlays", spec := "admitPlays", apart := false }
def AdmitPlaysSaid : Prop := admitPlaysRow.holds Try.pinned (OpenSpec.ofChange admitPlaysSpec)

/-- ITS FALSE NEIGHBOUR: 'it returns false'. Refute it at one input. -/
def admitPlaysWrong : ChangeSpec := { name := "admitPlays", fn := fun _ => fun
  | [d1, d2] => { results := [.lit (.bool false)], args := [d1, d2] }
  | _ => none }
def AdmitPlaysWrongFalsely : Prop := admitPlaysRow.holds Try.pinned (OpenSpec.ofChange admitPlaysWrong)

/-- 'pacemakerlaw17.AdmitNobody': WHATEVER THE INPUT: true; the input reads as it did. -/
def admitNobodySpec : ChangeSpec := { name := "admitNobody", fn := fun _ => fun
  | [d1, d2] => { results := [.lit (.bool true)], args := [d1, d2] }
  | _ => none }
def admitNobodyRow : OpenClaim := { program := "ytmhkbepnankopaa", sum := "52dddd9f1797ec36fb61e105b26a65b7d4d263f163ae57cfb3f7f5f083f5f26e", func := "pacemaker/pacemakerlaw17.AdmitNobody", spec := "admitNobody", apart := false }
def AdmitNobodySaid : Prop := admitNobodyRow.holds Try.pinned (OpenSpec.ofChange admitNobodySpec)

/-- ITS FALSE NEIGHBOUR: 'it returns false'. Refute it at one input. -/
def admitNobodyWrong : ChangeSpec := { name := "admitNobody", fn := fun _ => fun
  | [d1, d2] => { results := [.lit (.bool false)], args := [d1, d2] }
  | _ => none }
def AdmitNobodyWrongFalsely : Prop := admitNobodyRow.holds Try.pinned (OpenSpec.ofChange admitNobodyWrong)

/- THE SECOND FORM. 'bulk': how many values and letters a reading holds, each counted each time it is reached (what is shared counts as often as it is met; a slice's spare places count too). A statement '..UptoSaid' is the law's where the arguments, and the package variables that the reading takes, are together of bulk at most 1048576: NARROWER than '..Said'. Prove '..Said' where nothing that the law and all that it calls make is longer than what came in: it says more and counts as full. Else prove '..UptoSaid'. A law counts once. -/
mutual
def uptoBulk {H : Type} : DataW H → Nat
  | .lit (.string bytes) => bytes.length + 1
  | .lit _ => 1
  | .nil => 1
  | .ptr d => uptoBulk d + 1
  | .slice elems spare => uptoBulkAll elems + uptoBulkAll spare + 1
  | .agg parts => uptoBulkAll parts + 1
  | .iface _ d => uptoBulk d + 1
  | .map entries => uptoBulkEntries entries + 1
  | .held _ => 1
def uptoBulkAll {H : Type} : List (DataW H) → Nat
  | [] => 0
  | d :: r => uptoBulk d + uptoBulkAll r
def uptoBulkEntries {H : Type} : List (Lit × DataW H) → Nat
  | [] => 0
  | x :: r => uptoBulkEntry x + uptoBulkEntries r
def uptoBulkEntry {H : Type} : Lit × DataW H → Nat
  | (.string bytes, d) => bytes.length + uptoBulk d + 1
  | (_, d) => uptoBulk d + 1
 end
def uptoSmall : (H : Type) → List (DataW H) → Bool := fun _ ds => decide (uptoBulkAll ds ≤ 1048576)
def OpenSpec.upto (s : _root_.Go.ChangeSpec) : _root_.Go.OpenSpec := { _root_.Go.OpenSpec.ofChange s with cond := some uptoSmall }

/-- 'pacemakerlaw17.AdmitBack', WHERE WHAT IT READS IS OF BULK AT MOST 1048576: true; the input reads as it did. -/
def admitBackUptoRow : OpenClaim := { program := "ytmhkbepnankopaa", sum := "52dddd9f1797ec36fb61e105b26a65b7d4d263f163ae57cfb3f7f5f083f5f26e", func := "pacemaker/pacemakerlaw17.AdmitBack", spec := "admitBack", apart := false, narrowed := true }
def AdmitBackUptoSaid : Prop := admitBackUptoRow.holds Try.pinned (OpenSpec.upto admitBackSpec)

/-- 'pacemakerlaw17.AdmitNever', WHERE WHAT IT READS IS OF BULK AT MOST 1048576: true; the input reads as it did. -/
def admitNeverUptoRow : OpenClaim := { program := "ytmhkbepnankopaa", sum := "52dddd9f1797ec36fb61e105b26a65b7d4d263f163ae57cfb3f7f5f083f5f26e", func := "pacemaker/pacemakerlaw17.AdmitNever", spec := "admitNever", apart := false, narrowed := true }
def AdmitNeverUptoSaid : Prop := admitNeverUptoRow.holds Try.pinned (OpenSpec.upto admitNeverSpec)

/-- 'pacemakerlaw17.AdmitPlays', WHERE WHAT IT READS IS OF BULK AT MOST 1048576: true; the input reads as it did. -/
def admitPlaysUptoRow : OpenClaim := { program := "ytmhkbepnankopaa", sum := "52dddd9f1797ec36fb61e105b26a65b7d4d263f163ae57cfb3f7f5f083f5f26e", func := "pacemaker/pacemakerlaw17.AdmitPlays", spec := "admitPlays", apart := false, narrowed := true }
def AdmitPlaysUptoSaid : Prop := admitPlaysUptoRow.holds Try.pinned (OpenSpec.upto admitPlaysSpec)

/-- 'pacemakerlaw17.AdmitNobody', WHERE WHAT IT READS IS OF BULK AT MOST 1048576: true; the input reads as it did. -/
def admitNobodyUptoRow : OpenClaim := { program := "ytmhkbepnankopaa", sum := "52dddd9f1797ec36fb61e105b26a65b7d4d263f163ae57cfb3f7f5f083f5f26e", func := "pacemaker/pacemakerlaw17.AdmitNobody", spec := "admitNobody", apart := false, narrowed := true }
def AdmitNobodyUptoSaid : Prop := admitNobodyUptoRow.holds Try.pinned (OpenSpec.upto admitNobodySpec)

end Rows
end Go.Proofs.Ytmhkbepnankopaa
