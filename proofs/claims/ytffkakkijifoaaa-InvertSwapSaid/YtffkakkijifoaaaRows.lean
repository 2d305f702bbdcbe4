/-
  No cell of these rows narrows 'for every input' (looked for: loops, veiled, ifaces, maps, wideKeys, modest, calm, conditions, laid).
  DERIVED. THE GIVEN ROWS OF THIS SEAT. 3 by the template 'for every input the law returns true; each argument reads behind the call as it read before'; 0 by the template 'total and deterministic' (their statements: YtffkakkijifoaaaTotals.lean).
  GIVEN WITH THE SEED: the statements are not yours to turn. If you find one false, say at which input.
  Laid BY PROGRAM, IN A SANDBOX (cutbox-rows.mjs): the forced cells as the released guide's own fill.sh prints them over the translation 79bbb9ab7c805559… (all of the seat's roots in one cut). By AI agents, Wed Nov 11 2026. No macro, syntax, notation, axiom, sorry.
-/
import Derived.Test.YtffkakkijifoaaaChecked
import GoSem.Claim
import GoSem.ClaimJoined
import GoSem.ClaimMapViews
import Derived.JoinedTies
import Derived.KernelRfl
namespace Go.Proofs.Ytffkakkijifoaaa
/- THE CELL 'sum', in the pinned program and in every row, IS THE sha256 OF THE DUMP (.gsa) THAT YtffkakkijifoaaaProg.lean LOADS. Nothing in Lean hashes anything: it is a label: what it is worth is what the hold of that sum in a sandbox is worth. -/
noncomputable def Try.pinned : Pinned := { name := "ytffkakkijifoaaa", sum := "79bbb9ab7c8055590502528df7507b10e8fe47862ec157039d3e99c1f3afebb4", checked := Try.checked }
namespace Rows
def none {H : Type} : Left H := { results := [], args := [] }

/-- 'pacemakerlaw14.InvertTells': WHATEVER THE INPUT: true; the input reads as it did. -/
def invertTellsSpec : ChangeSpec := { name := "invertTells", fn := fun _ => fun
  | [d] => { results := [.lit (.bool true)], args := [d] }
  | _ => none }
def invertTellsRow : OpenClaim := { program := "ytffkakkijifoaaa", sum := "79bbb9ab7c8055590502528df7507b10e8fe47862ec157039d3e99c1f3afebb4", func := "pacemaker/pacemakerlaw14.InvertTells", spec := "invertTells", unfollowed := true, recurses := true, apart := false }
def InvertTellsSaid : Prop := invertTellsRow.holds Try.pinned (OpenSpec.ofChange invertTellsSpec)

/-- ITS FALSE NEIGHBOUR: 'it returns false'. Refute it at one input. -/
def invertTellsWrong : ChangeSpec := { name := "invertTells", fn := fun _ => fun
  | [d] => { results := [.lit (.bool false)], args := [d] }
  | _ => none }
def InvertTellsWrongFalsely : Prop := invertTellsRow.holds Try.pinned (OpenSpec.ofChange invertTellsWrong)

/-- 'pacemakerlaw14.InvertNone': WHATEVER THE INPUT: true; the input reads as it did. -/
def invertNoneSpec : ChangeSpec := { name := "invertNone", fn := fun _ => fun
  | [d] => { results := [.lit (.bool true)], args := [d] }
  | _ => none }
def invertNoneRow : OpenClaim := { program := "ytffkakkijifoaaa", sum := "79bbb9ab7c8055590502528df7507b10e8fe47862ec157039d3e99c1f3afebb4", func := "pacemaker/pacemakerlaw14.InvertNone", spec := "invertNone", unfollowed := true, recurses := true, apart := false }
def InvertNoneSaid : Prop := invertNoneRow.holds Try.pinned (OpenSpec.ofChange invertNoneSpec)

/-- ITS FALSE NEIGHBOUR: 'it returns false'. Refute it at one input. -/
def invertNoneWrong : ChangeSpec := { name := "invertNone", fn := fun _ => fun
  | [d] => { results := [.lit (.bool false)], args := [d] }
  | _ => none }
def InvertNoneWrongFalsely : Prop := invertNoneRow.holds Try.pinned (OpenSpec.ofChange invertNoneWrong)

/-- 'pacemakerlaw14.InvertSwap': WHATEVER THE INPUT: true; the input reads as it did. -/
def invertSwapSpec : ChangeSpec := { name := "invertSwap", fn := fun _ => fun
  | [d1, d2] => { results := [.lit (.bool true)], args := [d1, d2] }
  | _ => none }
def invertSwapRow : OpenClaim := { program := "ytffkakkijifoaaa", sum := "79bbb9ab7c8055590502528df7507b10e8fe47862ec157039d3e99c1f3afebb4", func := "pacemaker/pacemakerlaw14.InvertSwap", spec := "invertSwap", unfollowed := true, recurses := true, apart := false }
def InvertSwapSaid : Prop := invertSwapRow.holds Try.pinned (OpenSpec.ofChange invertSwapSpec)

/-- ITS FALSE NEIGHBOUR: 'it returns false'. Refute it at one input. -/
def invertSwapWrong : ChangeSpec := { name := "invertSwap", fn := fun _ => fun
  | [d1, d2] => { results := [.lit (.bool false)], args := [d1, d2] }
  | _ => none }
def InvertSwapWrongFalsely : Prop := invertSwapRow.holds Try.pinned (OpenSpec.ofChange invertSwapWrong)

/- THE SECOND FORM. 'bulk': how many values and letters a reading holds, each counted each time it is reached (what is shared counts as often as it is met; a slice's spare places count too). A statement '..UptoSaid' is the law's where the arguments, and the package variables that the reading takes, are together of bulk at most 1048576: NARROWER than '..Said'. Prove '..Said' where nothing that the law and all that it calls make is longer than what came in: it says more and counts as full. Else prove '..UptoSaid'. A law counts once. -/
mutual
def uptoBulk {H : Type} : DataW H → Nat
  | .lit (.string bytes) => bytes.length + 1
  | .lit _ => 1
  | .nil => 1
  | .ptr d => uptoBulk d + 1
  | .slice elems spare => uptoBulkAll elems + uptoBulkAll spare + 1
  | .agg parts => uptoBulkAll parts + 1
  | .iface _ d => uptoBulk d + 1
  | .map entries => uptoBulkEntries entries + 1
  | .held _ => 1
def uptoBulkAll {H : Type} : List (DataW H) → Nat
  | [] => 0
  | d :: r => uptoBulk d + uptoBulkAll r
def uptoBulkEntries {H : Type} : List (Lit × DataW H) → Nat
  | [] => 0
  | x :: r => uptoBulkEntry x + uptoBulkEntries r
def uptoBulkEntry {H : Type} : Lit × DataW H → Nat
  | (.string bytes, d) => bytes.length + uptoBulk d + 1
  | (_, d) => uptoBulk d + 1
 end
def uptoSmall : (H : Type) → List (DataW H) → Bool := fun _ ds => decide (uptoBulkAll ds ≤ 1048576)
def OpenSpec.upto (s : _root_.Go.ChangeSpec) : _root_.Go.OpenSpec := { _root_.Go.OpenSpec.ofChange s with cond := some uptoSmall }

/-- 'pacemakerlaw14.InvertTells', WHERE WHAT IT READS IS OF BULK AT MOST 1048576: true; the input reads as it did. -/
def invertTellsUptoRow : OpenClaim := { program := "ytffkakkijifoaaa", sum := "79bbb9ab7c8055590502528df7507b10e8fe47862ec157039d3e99c1f3afebb4", func := "pacemaker/pacemakerlaw14.InvertTells", spec := "invertTells", unfollowed := true, recurses := true, apart := false, narrowed := true }
def InvertTellsUptoSaid : Prop := invertTellsUptoRow.holds Try.pinned (OpenSpec.upto invertTellsSpec)

/-- 'pacemakerlaw14.InvertNone', WHERE WHAT IT READS IS OF BULK AT MOST 1048576: true; the input reads as it did. -/
def invertNoneUptoRow : OpenClaim := { program := "ytffkakkijifoaaa", sum := "79bbb9ab7c8055590502528df7507b10e8fe47862ec157039d3e99c1f3afebb4", func := "pacemaker/pacemakerlaw14.InvertNone", spec := "invertNone", unfollowed := true, recurses := true, apart := false, narrowed := true }
def InvertNoneUptoSaid : Prop := invertNoneUptoRow.holds Try.pinned (OpenSpec.upto invertNoneSpec)

/-- 'pacemakerlaw14.InvertSwap', WHERE WHAT IT READS IS OF BULK AT MOST 1048576: true; the input reads as it did. -/
def invertSwapUptoRow : OpenClaim := { program := "ytffkakkijifoaaa", sum := "79bbb9ab7c8055590502528df7507b10e8fe47862ec157039d3e99c1f3afebb4", func := "pacemaker/pacemakerlaw14.InvertSwap", spec := "invertSwap", unfollowed := true, recurses := true, apart := false, narrowed := true }
def InvertSwapUptoSaid : Prop := invertSwapUptoRow.holds Try.pinned (OpenSpec.upto invertSwapSpec)

end Rows
end Go.Proofs.Ytffkakkijifoaaa
