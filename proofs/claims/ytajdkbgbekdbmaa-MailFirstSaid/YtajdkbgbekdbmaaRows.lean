/-
  No cell of these rows narrows 'for every input' (looked for: loops, veiled, ifaces, maps, wideKeys, modest, calm, conditions, laid).
  DERIVED. THE GIVEN ROWS OF THIS SEAT. 4 by the template 'for every input the law returns true; each argument reads behind the call as it read before'; 0 by the template 'total and deterministic' (their statements: YtajdkbgbekdbmaaTotals.lean).
  GIVEN WITH THE SEED: the statements are not yours to turn. If you find one false, say at which input.
  Laid BY PROGRAM, IN A SANDBOX (cutbox-rows.mjs): the forced cells as the released guide's own fill.sh prints them over the translation bc17604e5065361a… (all of the seat's roots in one cut). By AI agents, Wed Nov 11 2026. No macro, syntax, notation, axiom, sorry.
-/
import Derived.Test.YtajdkbgbekdbmaaChecked
import GoSem.Claim
import GoSem.ClaimJoined
import GoSem.ClaimMapViews
import Derived.JoinedTies
import Derived.KernelRfl
namespace Go.Proofs.Ytajdkbgbekdbmaa
/- THE CELL 'sum', in the pinned program and in every row, IS THE sha256 OF THE DUMP (.gsa) THAT YtajdkbgbekdbmaaProg.lean LOADS. Nothing in Lean hashes anything: it is a label: what it is worth is what the hold of that sum in a sandbox is worth. -/
noncomputable def Try.pinned : Pinned := { name := "ytajdkbgbekdbmaa", sum := "bc17604e5065361aa6c15490a2dac0aebd2f05c537dd82d151754cf13575aa29", checked := Try.checked }
namespace Rows
def none {H : Type} : Left H := { results := [], args := [] }

/-- 'pacemakerlaw35.MailFirst': WHATEVER THE INPUT: true; the input reads as it did. -/
def mailFirstSpec : ChangeSpec := { name := "mailFirst", fn := fun _ => fun
  | [d] => { results := [.lit (.bool true)], args := [d] }
  | _ => none }
def mailFirstRow : OpenClaim := { program := "ytajdkbgbekdbmaa", sum := "bc17604e5065361aa6c15490a2dac0aebd2f05c537dd82d151754cf13575aa29", func := "pacemaker/pacemakerlaw35.MailFirst", spec := "mailFirst", apart := false }
def MailFirstSaid : Prop := mailFirstRow.holds Try.pinned (OpenSpec.ofChange mailFirstSpec)

/-- ITS FALSE NEIGHBOUR: 'it returns false'. Refute it at one input. -/
def mailFirstWrong : ChangeSpec := { name := "mailFirst", fn := fun _ => fun
  | [d] => { results := [.lit (.bool false)], args := [d] }
  | _ => none }
def MailFirstWrongFalsely : Prop := mailFirstRow.holds Try.pinned (OpenSpec.ofChange mailFirstWrong)

/-- 'pacemakerlaw35.MailPlays': WHATEVER THE INPUT: true; the input reads as it did. -/
def mailPlaysSpec : ChangeSpec := { name := "mailPlays", fn := fun _ => fun
  | [d1, d2] => { results := [.lit (.bool true)], args := [d1, d2] }
  | _ => none }
def mailPlaysRow : OpenClaim := { program := "ytajdkbgbekdbmaa", sum := "bc17604e5065361aa6c15490a2dac0aebd2f05c537dd82d151754cf13575aa29", func := "pacemaker/pacemakerlaw35.MailPlays", spec := "mailPlays", apart := false }
def MailPlaysSaid : Prop := mailPlaysRow.holds Try.pinned (OpenSpec.ofChange mailPlaysSpec)

/-- ITS FALSE NEIGHBOUR: 'it returns false'. Refute it at one input. -/
def mailPlaysWrong : ChangeSpec := { name := "mailPlays", fn := fun _ => fun
  | [d1, d2] => { results := [.lit (.bool false)], args := [d1, d2] }
  | _ => none }
def MailPlaysWrongFalsely : Prop := mailPlaysRow.holds Try.pinned (OpenSpec.ofChange mailPlaysWrong)

/-- 'pacemakerlaw35.MailOrder': WHATEVER THE INPUT: true; the input reads as it did. -/
def mailOrderSpec : ChangeSpec := { name := "mailOrder", fn := fun _ => fun
  | [d1, d2, d3] => { results := [.lit (.bool true)], args := [d1, d2, d3] }
  | _ => none }
def mailOrderRow : OpenClaim := { program := "ytajdkbgbekdbmaa", sum := "bc17604e5065361aa6c15490a2dac0aebd2f05c537dd82d151754cf13575aa29", func := "pacemaker/pacemakerlaw35.MailOrder", spec := "mailOrder", apart := false }
def MailOrderSaid : Prop := mailOrderRow.holds Try.pinned (OpenSpec.ofChange mailOrderSpec)

/-- ITS FALSE NEIGHBOUR: 'it returns false'. Refute it at one input. -/
def mailOrderWrong : ChangeSpec := { name := "mailOrder", fn := fun _ => fun
  | [d1, d2, d3] => { results := [.lit (.bool false)], args := [d1, d2, d3] }
  | _ => none }
def MailOrderWrongFalsely : Prop := mailOrderRow.holds Try.pinned (OpenSpec.ofChange mailOrderWrong)

/-- 'pacemakerlaw35.MailNobody': WHATEVER THE INPUT: true; the input reads as it did. -/
def mailNobodySpec : ChangeSpec := { name := "mailNobody", fn := fun _ => fun
  | [d] => { results := [.lit (.bool true)], args := [d] }
  | _ => none }
def mailNobodyRow : OpenClaim := { program := "ytajdkbgbekdbmaa", sum := "bc17604e5065361aa6c15490a2dac0aebd2f05c537dd82d151754cf13575aa29", func := "pacemaker/pacemakerlaw35.MailNobody", spec := "mailNobody", apart := false }
def MailNobodySaid : Prop := mailNobodyRow.holds Try.pinned (OpenSpec.ofChange mailNobodySpec)

/-- ITS FALSE NEIGHBOUR: 'it returns false'. Refute it at one input. -/
def mailNobodyWrong : ChangeSpec := { name := "mailNobody", fn := fun _ => fun
  | [d] => { results := [.lit (.bool false)], args := [d] }
  | _ => none }
def MailNobodyWrongFalsely : Prop := mailNobodyRow.holds Try.pinned (OpenSpec.ofChange mailNobodyWrong)

/- THE SECOND FORM. 'bulk': how many values and letters a reading holds, each counted each time it is reached (what is shared counts as often as it is met; a slice's spare places count too). A statement '..UptoSaid' is the law's where the arguments, and the package variables that the reading takes, are together of bulk at most 1048576: NARROWER than '..Said'. Prove '..Said' where nothing that the law and all that it calls make is longer than what came in: it says more and counts as full. Else prove '..UptoSaid'. A law counts once. -/
mutual
def uptoBulk {H : Type} : DataW H → Nat
  | .lit (.string bytes) => bytes.length + 1
  | .lit _ => 1
  | .nil => 1
  | .ptr d => uptoBulk d + 1
  | .slice elems spare => uptoBulkAll elems + uptoBulkAll spare + 1
  | .agg parts => uptoBulkAll parts + 1
  | .iface _ d => uptoBulk d + 1
  | .map entries => uptoBulkEntries entries + 1
  | .held _ => 1
def uptoBulkAll {H : Type} : List (DataW H) → Nat
  | [] => 0
  | d :: r => uptoBulk d + uptoBulkAll r
def uptoBulkEntries {H : Type} : List (Lit × DataW H) → Nat
  | [] => 0
  | x :: r => uptoBulkEntry x + uptoBulkEntries r
def uptoBulkEntry {H : Type} : Lit × DataW H → Nat
  | (.string bytes, d) => bytes.length + uptoBulk d + 1
  | (_, d) => uptoBulk d + 1
 end
def uptoSmall : (H : Type) → List (DataW H) → Bool := fun _ ds => decide (uptoBulkAll ds ≤ 1048576)
def OpenSpec.upto (s : _root_.Go.ChangeSpec) : _root_.Go.OpenSpec := { _root_.Go.OpenSpec.ofChange s with cond := some uptoSmall }

/-- 'pacemakerlaw35.MailFirst', WHERE WHAT IT READS IS OF BULK AT MOST 1048576: true; the input reads as it did. -/
def mailFirstUptoRow : OpenClaim := { program := "ytajdkbgbekdbmaa", sum := "bc17604e5065361aa6c15490a2dac0aebd2f05c537dd82d151754cf13575aa29", func := "pacemaker/pacemakerlaw35.MailFirst", spec := "mailFirst", apart := false, narrowed := true }
def MailFirstUptoSaid : Prop := mailFirstUptoRow.holds Try.pinned (OpenSpec.upto mailFirstSpec)

/-- 'pacemakerlaw35.MailPlays', WHERE WHAT IT READS IS OF BULK AT MOST 1048576: true; the input reads as it did. -/
def mailPlaysUptoRow : OpenClaim := { program := "ytajdkbgbekdbmaa", sum := "bc17604e5065361aa6c15490a2dac0aebd2f05c537dd82d151754cf13575aa29", func := "pacemaker/pacemakerlaw35.MailPlays", spec := "mailPlays", apart := false, narrowed := true }
def MailPlaysUptoSaid : Prop := mailPlaysUptoRow.holds Try.pinned (OpenSpec.upto mailPlaysSpec)

/-- 'pacemakerlaw35.MailOrder', WHERE WHAT IT READS IS OF BULK AT MOST 1048576: true; the input reads as it did. -/
def mailOrderUptoRow : OpenClaim := { program := "ytajdkbgbekdbmaa", sum := "bc17604e5065361aa6c15490a2dac0aebd2f05c537dd82d151754cf13575aa29", func := "pacemaker/pacemakerlaw35.MailOrder", spec := "mailOrder", apart := false, narrowed := true }
def MailOrderUptoSaid : Prop := mailOrderUptoRow.holds Try.pinned (OpenSpec.upto mailOrderSpec)

/-- 'pacemakerlaw35.MailNobody', WHERE WHAT IT READS IS OF BULK AT MOST 1048576: true; the input reads as it did. -/
def mailNobodyUptoRow : OpenClaim := { program := "ytajdkbgbekdbmaa", sum := "bc17604e5065361aa6c15490a2dac0aebd2f05c537dd82d151754cf13575aa29", func := "pacemaker/pacemakerlaw35.MailNobody", spec := "mailNobody", apart := false, narrowed := true }
def MailNobodyUptoSaid : Prop := mailNobodyUptoRow.holds Try.pinned (OpenSpec.upto mailNobodySpec)

end Rows
end Go.Proofs.Ytajdkbgbekdbmaa
