/-
  No cell of these rows narrows 'for every input' (looked for: loops, veiled, ifaces, maps, wideKeys, modest, calm, conditions, laid).
  DERIVED. THE GIVEN ROWS OF THIS SEAT. 4 by the template 'for every input the law returns true; each argument reads behind the call as it read before'; 0 by the template 'total and deterministic' (their statements: YtlmeemilikladaaTotals.lean).
  GIVEN WITH THE SEED: the statements are not yours to turn. If you find one false, say at which input.
  Laid BY PROGRAM, IN A SANDBOX (cutbox-rows.mjs): the forced cells as the released guide's own fill.sh prints them over the translation e3ccbad7eafd2c71… (all of the seat's roots in one cut). By AI agents, Wed Nov 11 2026. No macro, syntax, notation, axiom, sorry.
-/
import Derived.Test.YtlmeemilikladaaChecked
import GoSem.Claim
import GoSem.ClaimJoined
import GoSem.ClaimMapViews
import Derived.JoinedTies
import Derived.KernelRfl
namespace Go.Proofs.Ytlmeemilikladaa
/- THE CELL 'sum', in the pinned program and in every row, IS THE sha256 OF THE DUMP (.gsa) THAT YtlmeemilikladaaProg.lean LOADS. Nothing in Lean hashes anything: it is a label: what it is worth is what the hold of that sum in a sandbox is worth. -/
noncomputable def Try.pinned : Pinned := { name := "ytlmeemilikladaa", sum := "e3ccbad7eafd2c7154c93c5e19acd7fa81fcaa452db8bbb64eaf6f70f5d1b611", checked := Try.checked }
namespace Rows
def none {H : Type} : Left H := { results := [], args := [] }

/-- 'pacemakerlaw21.MeterWorse': WHATEVER THE INPUT: true; the input reads as it did. -/
def meterWorseSpec : ChangeSpec := { name := "meterWorse", fn := fun _ => fun
  | [d1, d2, d3] => { results := [.lit (.bool true)], args := [d1, d2, d3] }
  | _ => none }
def meterWorseRow : OpenClaim := { program := "ytlmeemilikladaa", sum := "e3ccbad7eafd2c7154c93c5e19acd7fa81fcaa452db8bbb64eaf6f70f5d1b611", func := "pacemaker/pacemakerlaw21.MeterWorse", spec := "meterWorse", apart := false }
def MeterWorseSaid : Prop := meterWorseRow.holds Try.pinned (OpenSpec.ofChange meterWorseSpec)

/-- ITS FALSE NEIGHBOUR: 'it returns false'. Refute it at one input. -/
def meterWorseWrong : ChangeSpec := { name := "meterWorse", fn := fun _ => fun
  | [d1, d2, d3] => { results := [.lit (.bool false)], args := [d1, d2, d3] }
  | _ => none }
def MeterWorseWrongFalsely : Prop := meterWorseRow.holds Try.pinned (OpenSpec.ofChange meterWorseWrong)

/-- 'pacemakerlaw21.MeterCut': WHATEVER THE INPUT: true; the input reads as it did. -/
def meterCutSpec : ChangeSpec := { name := "meterCut", fn := fun _ => fun
  | [d1, d2, d3] => { results := [.lit (.bool true)], args := [d1, d2, d3] }
  | _ => none }
def meterCutRow : OpenClaim := { program := "ytlmeemilikladaa", sum := "e3ccbad7eafd2c7154c93c5e19acd7fa81fcaa452db8bbb64eaf6f70f5d1b611", func := "pacemaker/pacemakerlaw21.MeterCut", spec := "meterCut", inPlace := ["math/bits.Sub64", "math/bits.Add64"], apart := false }
def MeterCutSaid : Prop := meterCutRow.holds Try.pinned (OpenSpec.ofChange meterCutSpec)

/-- ITS FALSE NEIGHBOUR: 'it returns false'. Refute it at one input. -/
def meterCutWrong : ChangeSpec := { name := "meterCut", fn := fun _ => fun
  | [d1, d2, d3] => { results := [.lit (.bool false)], args := [d1, d2, d3] }
  | _ => none }
def MeterCutWrongFalsely : Prop := meterCutRow.holds Try.pinned (OpenSpec.ofChange meterCutWrong)

/-- 'pacemakerlaw21.MeterPlays': WHATEVER THE INPUT: true; the input reads as it did. -/
def meterPlaysSpec : ChangeSpec := { name := "meterPlays", fn := fun _ => fun
  | [d1, d2, d3] => { results := [.lit (.bool true)], args := [d1, d2, d3] }
  | _ => none }
def meterPlaysRow : OpenClaim := { program := "ytlmeemilikladaa", sum := "e3ccbad7eafd2c7154c93c5e19acd7fa81fcaa452db8bbb64eaf6f70f5d1b611", func := "pacemaker/pacemakerlaw21.MeterPlays", spec := "meterPlays", inPlace := ["math/bits.Sub64", "math/bits.Add64"], apart := false }
def MeterPlaysSaid : Prop := meterPlaysRow.holds Try.pinned (OpenSpec.ofChange meterPlaysSpec)

/-- ITS FALSE NEIGHBOUR: 'it returns false'. Refute it at one input. -/
def meterPlaysWrong : ChangeSpec := { name := "meterPlays", fn := fun _ => fun
  | [d1, d2, d3] => { results := [.lit (.bool false)], args := [d1, d2, d3] }
  | _ => none }
def MeterPlaysWrongFalsely : Prop := meterPlaysRow.holds Try.pinned (OpenSpec.ofChange meterPlaysWrong)

/-- 'pacemakerlaw21.MeterGreen': WHATEVER THE INPUT: true; the input reads as it did. -/
def meterGreenSpec : ChangeSpec := { name := "meterGreen", fn := fun _ => fun
  | [d1, d2, d3] => { results := [.lit (.bool true)], args := [d1, d2, d3] }
  | _ => none }
def meterGreenRow : OpenClaim := { program := "ytlmeemilikladaa", sum := "e3ccbad7eafd2c7154c93c5e19acd7fa81fcaa452db8bbb64eaf6f70f5d1b611", func := "pacemaker/pacemakerlaw21.MeterGreen", spec := "meterGreen", inPlace := ["math/bits.Sub64", "math/bits.Add64"], apart := false }
def MeterGreenSaid : Prop := meterGreenRow.holds Try.pinned (OpenSpec.ofChange meterGreenSpec)

/-- ITS FALSE NEIGHBOUR: 'it returns false'. Refute it at one input. -/
def meterGreenWrong : ChangeSpec := { name := "meterGreen", fn := fun _ => fun
  | [d1, d2, d3] => { results := [.lit (.bool false)], args := [d1, d2, d3] }
  | _ => none }
def MeterGreenWrongFalsely : Prop := meterGreenRow.holds Try.pinned (OpenSpec.ofChange meterGreenWrong)

/- THE SECOND FORM. 'bulk': how many values and letters a reading holds, each counted each time it is reached (what is shared counts as often as it is met; a slice's spare places count too). A statement '..UptoSaid' is the law's where the arguments, and the package variables that the reading takes, are together of bulk at most 1048576: NARROWER than '..Said'. Prove '..Said' where nothing that the law and all that it calls make is longer than what came in: it says more and counts as full. Else prove '..UptoSaid'. A law counts once. -/
mutual
def uptoBulk {H : Type} : DataW H → Nat
  | .lit (.string bytes) => bytes.length + 1
  | .lit _ => 1
  | .nil => 1
  | .ptr d => uptoBulk d + 1
  | .slice elems spare => uptoBulkAll elems + uptoBulkAll spare + 1
  | .agg parts => uptoBulkAll parts + 1
  | .iface _ d => uptoBulk d + 1
  | .map entries => uptoBulkEntries entries + 1
  | .held _ => 1
def uptoBulkAll {H : Type} : List (DataW H) → Nat
  | [] => 0
  | d :: r => uptoBulk d + uptoBulkAll r
def uptoBulkEntries {H : Type} : List (Lit × DataW H) → Nat
  | [] => 0
  | x :: r => uptoBulkEntry x + uptoBulkEntries r
def uptoBulkEntry {H : Type} : Lit × DataW H → Nat
  | (.string bytes, d) => bytes.length + uptoBulk d + 1
  | (_, d) => uptoBulk d + 1
 end
def uptoSmall : (H : Type) → List (DataW H) → Bool := fun _ ds => decide (uptoBulkAll ds ≤ 1048576)
def OpenSpec.upto (s : _root_.Go.ChangeSpec) : _root_.Go.OpenSpec := { _root_.Go.OpenSpec.ofChange s with cond := some uptoSmall }

/-- 'pacemakerlaw21.MeterWorse', WHERE WHAT IT READS IS OF BULK AT MOST 1048576: true; the input reads as it did. -/
def meterWorseUptoRow : OpenClaim := { program := "ytlmeemilikladaa", sum := "e3ccbad7eafd2c7154c93c5e19acd7fa81fcaa452db8bbb64eaf6f70f5d1b611", func := "pacemaker/pacemakerlaw21.MeterWorse", spec := "meterWorse", apart := false, narrowed := true }
def MeterWorseUptoSaid : Prop := meterWorseUptoRow.holds Try.pinned (OpenSpec.upto meterWorseSpec)

/-- 'pacemakerlaw21.MeterCut', WHERE WHAT IT READS IS OF BULK AT MOST 1048576: true; the input reads as it did. -/
def meterCutUptoRow : OpenClaim := { program := "ytlmeemilikladaa", sum := "e3ccbad7eafd2c7154c93c5e19acd7fa81fcaa452db8bbb64eaf6f70f5d1b611", func := "pacemaker/pacemakerlaw21.MeterCut", spec := "meterCut", inPlace := ["math/bits.Sub64", "math/bits.Add64"], apart := false, narrowed := true }
def MeterCutUptoSaid : Prop := meterCutUptoRow.holds Try.pinned (OpenSpec.upto meterCutSpec)

/-- 'pacemakerlaw21.MeterPlays', WHERE WHAT IT READS IS OF BULK AT MOST 1048576: true; the input reads as it did. -/
def meterPlaysUptoRow : OpenClaim := { program := "ytlmeemilikladaa", sum := "e3ccbad7eafd2c7154c93c5e19acd7fa81fcaa452db8bbb64eaf6f70f5d1b611", func := "pacemaker/pacemakerlaw21.MeterPlays", spec := "meterPlays", inPlace := ["math/bits.Sub64", "math/bits.Add64"], apart := false, narrowed := true }
def MeterPlaysUptoSaid : Prop := meterPlaysUptoRow.holds Try.pinned (OpenSpec.upto meterPlaysSpec)

/-- 'pacemakerlaw21.MeterGreen', WHERE WHAT IT READS IS OF BULK AT MOST 1048576: true; the input reads as it did. -/
def meterGreenUptoRow : OpenClaim := { program := "ytlmeemilikladaa", sum := "e3ccbad7eafd2c7154c93c5e19acd7fa81fcaa452db8bbb64eaf6f70f5d1b611", func := "pacemaker/pacemakerlaw21.MeterGreen", spec := "meterGreen", inPlace := ["math/bits.Sub64", "math/bits.Add64"], apart := false, narrowed := true }
def MeterGreenUptoSaid : Prop := meterGreenUptoRow.holds Try.pinned (OpenSpec.upto meterGreenSpec)

end Rows
end Go.Proofs.Ytlmeemilikladaa
