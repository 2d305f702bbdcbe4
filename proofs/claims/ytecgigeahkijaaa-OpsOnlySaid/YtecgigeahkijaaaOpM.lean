/- Runs of Go code, as printed by a program: no condition beyond those that each states. -/
import Derived.Test.YtecgigeahkijaaaOpL
import Derived.Test.YtecgigeahkijaaaChecked
import Derived.KernelRfl
namespace Go.Proofs.Ytecgigeahkijaaa
set_option linter.unusedVariables false
set_option linter.unusedSimpArgs false
set_option maxRecDepth 100000
open Go.RowKit E
set_option maxHeartbeats 2000000 in
theorem rg_n (k fl id ln tk : Int) (h0 : 0 ≤ k) (h4 : k ≤ 4) (hb : (k == k && ((if k = 1 then fl else 0) == fl && ((if k = 1 then id else 0) == id && ((if k = 1 ∨ k = 0 then ln else 0) == ln && ((if k = 3 then tk else 0) == tk && true))))) = false) : PureOk Try.prog 10 ([.nv (.agg [.val (.int .i64 k), .val (.int .u32 fl), .val (.int .u32 id), .val (.int .u64 ln), .val (.int .u64 tk)])]) (bA false) :=
  pure_run GoD_ok Try.func10 (orc := ⟨[false, false, true], []⟩) (obl := [decide (k < (0 : Int)) = false,
      decide (k > (4 : Int)) = false,
      (!(k == k && ((if k = (1 : Int) then fl else (0 : Int)) == fl && ((if k = (1 : Int) then id else (0 : Int)) == id && ((if k = (1 : Int) ∨ k = (0 : Int) then ln else (0 : Int)) == ln && ((if k = (3 : Int) then tk else (0 : Int)) == tk && true)))))) = true,
      false = false]) (by kernel_rfl) (.cons (by exact decide_eq_false (by omega)) (.cons (by exact decide_eq_false (by omega)) (.cons (by (rw [hb]; rfl)) (.cons (by rfl) .nil))))

set_option maxHeartbeats 2000000 in
theorem rg_t (k fl id ln tk : Int) (h0 : 0 < k) (h4 : k ≤ 4) (hb : (k == k && ((if k = 1 then fl else 0) == fl && ((if k = 1 then id else 0) == id && ((if k = 1 ∨ k = 0 then ln else 0) == ln && ((if k = 3 then tk else 0) == tk && true))))) = true) : PureOk Try.prog 10 ([.nv (.agg [.val (.int .i64 k), .val (.int .u32 fl), .val (.int .u32 id), .val (.int .u64 ln), .val (.int .u64 tk)])]) (bA true) :=
  pure_run GoD_ok Try.func10 (orc := ⟨[false, false, false, true], []⟩) (obl := [decide (k < (0 : Int)) = false,
      decide (k > (4 : Int)) = false,
      (!(k == k && ((if k = (1 : Int) then fl else (0 : Int)) == fl && ((if k = (1 : Int) then id else (0 : Int)) == id && ((if k = (1 : Int) ∨ k = (0 : Int) then ln else (0 : Int)) == ln && ((if k = (3 : Int) then tk else (0 : Int)) == tk && true)))))) = false,
      (k != (0 : Int)) = true,
      true = true]) (by kernel_rfl) (.cons (by exact decide_eq_false (by omega)) (.cons (by exact decide_eq_false (by omega)) (.cons (by (rw [hb]; rfl)) (.cons (by exact bne_iff_ne.2 (by omega)) (.cons (by rfl) .nil)))))

set_option maxHeartbeats 2000000 in
theorem rg_a (k fl id ln tk : Int) (h0 : k = 0) (hl : ¬ ln < 256) (hb : (k == k && ((if k = 1 then fl else 0) == fl && ((if k = 1 then id else 0) == id && ((if k = 1 ∨ k = 0 then ln else 0) == ln && ((if k = 3 then tk else 0) == tk && true))))) = true) : PureOk Try.prog 10 ([.nv (.agg [.val (.int .i64 k), .val (.int .u32 fl), .val (.int .u32 id), .val (.int .u64 ln), .val (.int .u64 tk)])]) (bA false) :=
  pure_run GoD_ok Try.func10 (orc := ⟨[false, false, false, false, false], []⟩) (obl := [decide (k < (0 : Int)) = false,
      decide (k > (4 : Int)) = false,
      (!(k == k && ((if k = (1 : Int) then fl else (0 : Int)) == fl && ((if k = (1 : Int) then id else (0 : Int)) == id && ((if k = (1 : Int) ∨ k = (0 : Int) then ln else (0 : Int)) == ln && ((if k = (3 : Int) then tk else (0 : Int)) == tk && true)))))) = false,
      (k != (0 : Int)) = false,
      decide (ln < (256 : Int)) = false,
      false = false]) (by kernel_rfl) (.cons (by exact decide_eq_false (by omega)) (.cons (by exact decide_eq_false (by omega)) (.cons (by (rw [hb]; rfl)) (.cons (by exact bne_eq_false_iff_eq.2 (by omega)) (.cons (by exact decide_eq_false (by omega)) (.cons (by rfl) .nil))))))

set_option maxHeartbeats 2000000 in
theorem rg_b (k fl id ln tk : Int) (h0 : k = 0) (hl : ln < 256) (hb : (k == k && ((if k = 1 then fl else 0) == fl && ((if k = 1 then id else 0) == id && ((if k = 1 ∨ k = 0 then ln else 0) == ln && ((if k = 3 then tk else 0) == tk && true))))) = true) : PureOk Try.prog 10 ([.nv (.agg [.val (.int .i64 k), .val (.int .u32 fl), .val (.int .u32 id), .val (.int .u64 ln), .val (.int .u64 tk)])]) (bA (!begB ln)) :=
  pure_run GoD_ok Try.func10 (orc := ⟨[false, false, false, false, true], []⟩) (obl := [decide (k < (0 : Int)) = false,
      decide (k > (4 : Int)) = false,
      (!(k == k && ((if k = (1 : Int) then fl else (0 : Int)) == fl && ((if k = (1 : Int) then id else (0 : Int)) == id && ((if k = (1 : Int) ∨ k = (0 : Int) then ln else (0 : Int)) == ln && ((if k = (3 : Int) then tk else (0 : Int)) == tk && true)))))) = false,
      (k != (0 : Int)) = false,
      decide (ln < (256 : Int)) = true,
      (!begB ln) = !begB ln]) (by kernel_rfl) (.cons (by exact decide_eq_false (by omega)) (.cons (by exact decide_eq_false (by omega)) (.cons (by (rw [hb]; rfl)) (.cons (by exact bne_eq_false_iff_eq.2 (by omega)) (.cons (by exact decide_eq_true (by omega)) (.cons (by rfl) .nil))))))
end Go.Proofs.Ytecgigeahkijaaa
