/- Runs of Go code, as printed by a program: no condition beyond those that each states. -/
import Derived.Test.YteehpliloegkgaaHdU
import Derived.Test.YteehpliloegkgaaChecked
import Derived.KernelRfl
namespace Go.Proofs.Yteehpliloegkgaa
set_option linter.unusedVariables false
set_option linter.unusedSimpArgs false
set_option maxRecDepth 100000
open Go.RowKit E
set_option maxHeartbeats 2000000 in
theorem lv_t  : PureOk Try.prog 7 ([]) (bA true) :=
  pure_run GhJ_ok Try.func7 (orc := ⟨[true, true, true, true, true], []⟩) (obl := [Hd.wf { d := (1 : Int), id := (0 : Int), ttl := (2 : Int), src := (0 : Int), dst := (0 : Int), sp := (0 : Int), dp := (0 : Int) },
      ByteArray.size (hPutS { d := (1 : Int), id := (0 : Int), ttl := (2 : Int), src := (0 : Int), dst := (0 : Int), sp := (0 : Int), dp := (0 : Int) } (ByteArray.mk #[(97 : UInt8), (98 : UInt8)])) ≤ (70000 : Nat),
      ByteArray.size (hoS (hPutS { d := (1 : Int), id := (0 : Int), ttl := (2 : Int), src := (0 : Int), dst := (0 : Int), sp := (0 : Int), dp := (0 : Int) } (ByteArray.mk #[(97 : UInt8), (98 : UInt8)]))) ≤ (70000 : Nat),
      (hPutE { d := (1 : Int), id := (0 : Int), ttl := (2 : Int), src := (0 : Int), dst := (0 : Int), sp := (0 : Int), dp := (0 : Int) } (ByteArray.mk #[(97 : UInt8), (98 : UInt8)]) == (0 : Int)) = true,
      ((↑(ByteArray.size (hPutS { d := (1 : Int), id := (0 : Int), ttl := (2 : Int), src := (0 : Int), dst := (0 : Int), sp := (0 : Int), dp := (0 : Int) } (ByteArray.mk #[(97 : UInt8), (98 : UInt8)]))) : Int) == (30 : Int)) = true,
      (0 : Int) ≤ (2 : Int),
      (2 : Int) < (↑(ByteArray.size (hPutS { d := (1 : Int), id := (0 : Int), ttl := (2 : Int), src := (0 : Int), dst := (0 : Int), sp := (0 : Int), dp := (0 : Int) } (ByteArray.mk #[(97 : UInt8), (98 : UInt8)]))) : Int),
      (byteAt (hPutS { d := (1 : Int), id := (0 : Int), ttl := (2 : Int), src := (0 : Int), dst := (0 : Int), sp := (0 : Int), dp := (0 : Int) } (ByteArray.mk #[(97 : UInt8), (98 : UInt8)])) (2 : Int) == (0 : Int)) = true,
      (0 : Int) ≤ (3 : Int),
      (3 : Int) < (↑(ByteArray.size (hPutS { d := (1 : Int), id := (0 : Int), ttl := (2 : Int), src := (0 : Int), dst := (0 : Int), sp := (0 : Int), dp := (0 : Int) } (ByteArray.mk #[(97 : UInt8), (98 : UInt8)]))) : Int),
      (byteAt (hPutS { d := (1 : Int), id := (0 : Int), ttl := (2 : Int), src := (0 : Int), dst := (0 : Int), sp := (0 : Int), dp := (0 : Int) } (ByteArray.mk #[(97 : UInt8), (98 : UInt8)])) (3 : Int) == (30 : Int)) = true,
      (hoE (hPutS { d := (1 : Int), id := (0 : Int), ttl := (2 : Int), src := (0 : Int), dst := (0 : Int), sp := (0 : Int), dp := (0 : Int) } (ByteArray.mk #[(97 : UInt8), (98 : UInt8)])) == (0 : Int)) = true,
      (hoE (hoS (hPutS { d := (1 : Int), id := (0 : Int), ttl := (2 : Int), src := (0 : Int), dst := (0 : Int), sp := (0 : Int), dp := (0 : Int) } (ByteArray.mk #[(97 : UInt8), (98 : UInt8)]))) == (21 : Int)) = true]) (by kernel_rfl) (.cons (by trivial) (.cons (by trivial) (.cons (by trivial) (.cons (by rfl) (.cons (by rfl) (.cons (by trivial) (.cons (by trivial) (.cons (by rfl) (.cons (by trivial) (.cons (by trivial) (.cons (by rfl) (.cons (by rfl) (.cons (by rfl) .nil)))))))))))))
end Go.Proofs.Yteehpliloegkgaa
