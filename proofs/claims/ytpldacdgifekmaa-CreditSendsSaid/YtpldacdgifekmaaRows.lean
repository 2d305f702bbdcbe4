/-
  No cell of these rows narrows 'for every input' (looked for: loops, veiled, ifaces, maps, wideKeys, modest, calm, conditions, laid).
  DERIVED. THE GIVEN ROWS OF THIS SEAT. 3 by the template 'for every input the law returns true; each argument reads behind the call as it read before'; 0 by the template 'total and deterministic' (their statements: YtpldacdgifekmaaTotals.lean).
  GIVEN WITH THE SEED: the statements are not yours to turn. If you find one false, say at which input.
  Laid BY PROGRAM, IN A SANDBOX (cutbox-rows.mjs): the forced cells as the released guide's own fill.sh prints them over the translation b6fdf7738418caf7… (all of the seat's roots in one cut). By AI agents, Wed Nov 11 2026. No macro, syntax, notation, axiom, sorry.
-/
import Derived.Test.YtpldacdgifekmaaChecked
import GoSem.Claim
import GoSem.ClaimJoined
import GoSem.ClaimMapViews
import Derived.JoinedTies
import Derived.KernelRfl
namespace Go.Proofs.Ytpldacdgifekmaa
/- THE CELL 'sum', in the pinned program and in every row, IS THE sha256 OF THE DUMP (.gsa) THAT YtpldacdgifekmaaProg.lean LOADS. Nothing in Lean hashes anything: it is a label: what it is worth is what the hold of that sum in a sandbox is worth. -/
noncomputable def Try.pinned : Pinned := { name := "ytpldacdgifekmaa", sum := "b6fdf7738418caf7918e81a0adb4b29c33faa373b0ab0eca6dd58c4af6d19256", checked := Try.checked }
namespace Rows
def none {H : Type} : Left H := { results := [], args := [] }

/-- 'pacemakerlaw23.CreditPlays': WHATEVER THE INPUT: true; the input reads as it did. -/
def creditPlaysSpec : ChangeSpec := { name := "creditPlays", fn := fun _ => fun
  | [d1, d2] => { results := [.lit (.bool true)], args := [d1, d2] }
  | _ => none }
def creditPlaysRow : OpenClaim := { program := "ytpldacdgifekmaa", sum := "b6fdf7738418caf7918e81a0adb4b29c33faa373b0ab0eca6dd58c4af6d19256", func := "pacemaker/pacemakerlaw23.CreditPlays", spec := "creditPlays", apart := false }
def CreditPlaysSaid : Prop := creditPlaysRow.holds Try.pinned (OpenSpec.ofChange creditPlaysSpec)

/-- ITS FALSE NEIGHBOUR: 'it returns false'. Refute it at one input. -/
def creditPlaysWrong : ChangeSpec := { name := "creditPlays", fn := fun _ => fun
  | [d1, d2] => { results := [.lit (.bool false)], args := [d1, d2] }
  | _ => none }
def CreditPlaysWrongFalsely : Prop := creditPlaysRow.holds Try.pinned (OpenSpec.ofChange creditPlaysWrong)

/-- 'pacemakerlaw23.CreditBounds': WHATEVER THE INPUT: true; the input reads as it did. -/
def creditBoundsSpec : ChangeSpec := { name := "creditBounds", fn := fun _ => fun
  | [d1, d2, d3] => { results := [.lit (.bool true)], args := [d1, d2, d3] }
  | _ => none }
def creditBoundsRow : OpenClaim := { program := "ytpldacdgifekmaa", sum := "b6fdf7738418caf7918e81a0adb4b29c33faa373b0ab0eca6dd58c4af6d19256", func := "pacemaker/pacemakerlaw23.CreditBounds", spec := "creditBounds", apart := false }
def CreditBoundsSaid : Prop := creditBoundsRow.holds Try.pinned (OpenSpec.ofChange creditBoundsSpec)

/-- ITS FALSE NEIGHBOUR: 'it returns false'. Refute it at one input. -/
def creditBoundsWrong : ChangeSpec := { name := "creditBounds", fn := fun _ => fun
  | [d1, d2, d3] => { results := [.lit (.bool false)], args := [d1, d2, d3] }
  | _ => none }
def CreditBoundsWrongFalsely : Prop := creditBoundsRow.holds Try.pinned (OpenSpec.ofChange creditBoundsWrong)

/-- 'pacemakerlaw23.CreditSends': WHATEVER THE INPUT: true; the input reads as it did. -/
def creditSendsSpec : ChangeSpec := { name := "creditSends", fn := fun _ => fun
  | [d1, d2, d3] => { results := [.lit (.bool true)], args := [d1, d2, d3] }
  | _ => none }
def creditSendsRow : OpenClaim := { program := "ytpldacdgifekmaa", sum := "b6fdf7738418caf7918e81a0adb4b29c33faa373b0ab0eca6dd58c4af6d19256", func := "pacemaker/pacemakerlaw23.CreditSends", spec := "creditSends", apart := false }
def CreditSendsSaid : Prop := creditSendsRow.holds Try.pinned (OpenSpec.ofChange creditSendsSpec)

/-- ITS FALSE NEIGHBOUR: 'it returns false'. Refute it at one input. -/
def creditSendsWrong : ChangeSpec := { name := "creditSends", fn := fun _ => fun
  | [d1, d2, d3] => { results := [.lit (.bool false)], args := [d1, d2, d3] }
  | _ => none }
def CreditSendsWrongFalsely : Prop := creditSendsRow.holds Try.pinned (OpenSpec.ofChange creditSendsWrong)

/- THE SECOND FORM. 'bulk': how many values and letters a reading holds, each counted each time it is reached (what is shared counts as often as it is met; a slice's spare places count too). A statement '..UptoSaid' is the law's where the arguments, and the package variables that the reading takes, are together of bulk at most 1048576: NARROWER than '..Said'. Prove '..Said' where nothing that the law and all that it calls make is longer than what came in: it says more and counts as full. Else prove '..UptoSaid'. A law counts once. -/
mutual
def uptoBulk {H : Type} : DataW H → Nat
  | .lit (.string bytes) => bytes.length + 1
  | .lit _ => 1
  | .nil => 1
  | .ptr d => uptoBulk d + 1
  | .slice elems spare => uptoBulkAll elems + uptoBulkAll spare + 1
  | .agg parts => uptoBulkAll parts + 1
  | .iface _ d => uptoBulk d + 1
  | .map entries => uptoBulkEntries entries + 1
  | .held _ => 1
def uptoBulkAll {H : Type} : List (DataW H) → Nat
  | [] => 0
  | d :: r => uptoBulk d + uptoBulkAll r
def uptoBulkEntries {H : Type} : List (Lit × DataW H) → Nat
  | [] => 0
  | x :: r => uptoBulkEntry x + uptoBulkEntries r
def uptoBulkEntry {H : Type} : Lit × DataW H → Nat
  | (.string bytes, d) => bytes.length + uptoBulk d + 1
  | (_, d) => uptoBulk d + 1
 end
def uptoSmall : (H : Type) → List (DataW H) → Bool := fun _ ds => decide (uptoBulkAll ds ≤ 1048576)
def OpenSpec.upto (s : _root_.Go.ChangeSpec) : _root_.Go.OpenSpec := { _root_.Go.OpenSpec.ofChange s with cond := some uptoSmall }

/-- 'pacemakerlaw23.CreditPlays', WHERE WHAT IT READS IS OF BULK AT MOST 1048576: true; the input reads as it did. -/
def creditPlaysUptoRow : OpenClaim := { program := "ytpldacdgifekmaa", sum := "b6fdf7738418caf7918e81a0adb4b29c33faa373b0ab0eca6dd58c4af6d19256", func := "pacemaker/pacemakerlaw23.CreditPlays", spec := "creditPlays", apart := false, narrowed := true }
def CreditPlaysUptoSaid : Prop := creditPlaysUptoRow.holds Try.pinned (OpenSpec.upto creditPlaysSpec)

/-- 'pacemakerlaw23.CreditBounds', WHERE WHAT IT READS IS OF BULK AT MOST 1048576: true; the input reads as it did. -/
def creditBoundsUptoRow : OpenClaim := { program := "ytpldacdgifekmaa", sum := "b6fdf7738418caf7918e81a0adb4b29c33faa373b0ab0eca6dd58c4af6d19256", func := "pacemaker/pacemakerlaw23.CreditBounds", spec := "creditBounds", apart := false, narrowed := true }
def CreditBoundsUptoSaid : Prop := creditBoundsUptoRow.holds Try.pinned (OpenSpec.upto creditBoundsSpec)

/-- 'pacemakerlaw23.CreditSends', WHERE WHAT IT READS IS OF BULK AT MOST 1048576: true; the input reads as it did. -/
def creditSendsUptoRow : OpenClaim := { program := "ytpldacdgifekmaa", sum := "b6fdf7738418caf7918e81a0adb4b29c33faa373b0ab0eca6dd58c4af6d19256", func := "pacemaker/pacemakerlaw23.CreditSends", spec := "creditSends", apart := false, narrowed := true }
def CreditSendsUptoSaid : Prop := creditSendsUptoRow.holds Try.pinned (OpenSpec.upto creditSendsSpec)

end Rows
end Go.Proofs.Ytpldacdgifekmaa
