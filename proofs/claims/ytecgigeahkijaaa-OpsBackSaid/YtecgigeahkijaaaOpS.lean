/- Runs of Go code, as printed by a program: no condition beyond those that each states. -/
import Derived.Test.YtecgigeahkijaaaOpP
import Derived.Test.YtecgigeahkijaaaChecked
import Derived.KernelRfl
namespace Go.Proofs.Ytecgigeahkijaaa
set_option linter.unusedVariables false
set_option linter.unusedSimpArgs false
set_option maxRecDepth 100000
open Go.RowKit E
attribute [local irreducible] rgt fldN fldF putStr badZ opsS allR opX numO
set_option maxHeartbeats 2000000 in
theorem ob_l (len : Nat) (L : Nat → Op5) (h : 500 < len) : LawOk Try.prog 4 ([.nv (.one (.own 0))]) ([.ro 5 len (gO L)]) (bA true) :=
  law_run GoF_ok Try.func4 (orc := ⟨[true], []⟩) (obl := [decide ((↑len : Int) > (500 : Int)) = true,
      true = true]) (by kernel_rfl) (.cons (by exact decide_eq_true (by omega)) (.cons (by rfl) .nil))

set_option maxHeartbeats 2000000 in
theorem ob_n (len i : Nat) (L : Nat → Op5) (hi : i < len) (hl : len ≤ 500) (w0 : 0 ≤ (L i).ln) : CodeOk Try.prog 1 (loopOf Try.f4 0) (mkSt 63 [(0, .nv (.one (.own 0))), (13, .nv (.one (.own 0))), (14, iA len), (15, iA i)] [.ro 5 len (gO L)]) .normal (mkSt 63 [(0, .nv (.one (.own 0))), (13, .nv (.one (.own 0))), (14, iA len), (15, iA (i + 1))] [.ro 5 len (gO L)]) :=
  code_run GoF_ok (orc := ⟨[true, false], []⟩) (obl := [decide ((↑i : Int) < (↑len : Int)) = true,
      (0 : Int) ≤ (↑i : Int),
      (↑i : Int) < (↑len : Int),
      Int.toNat (↑i : Int) < len,
      (0 : Int) ≤ Op5.ln (L (Int.toNat (↑i : Int))),
      (!rgt { k := Op5.k (L (Int.toNat (↑i : Int))), fl := Op5.fl (L (Int.toNat (↑i : Int))), id := Op5.id (L (Int.toNat (↑i : Int))), ln := Op5.ln (L (Int.toNat (↑i : Int))), tk := Op5.tk (L (Int.toNat (↑i : Int))) } == rgt { k := Op5.k (L (Int.toNat (↑i : Int))), fl := Op5.fl (L (Int.toNat (↑i : Int))), id := Op5.id (L (Int.toNat (↑i : Int))), ln := Op5.ln (L (Int.toNat (↑i : Int))), tk := Op5.tk (L (Int.toNat (↑i : Int))) }) = false,
      (↑len : Int) = (↑len : Int),
      IntKind.wrap IntKind.i64 ((↑i : Int) + (1 : Int)) = (↑i : Int) + (1 : Int),
      len = len,
      ∀ (i : Nat), i < len → Op5.k (L i) = Op5.k (L i) ∧ Op5.fl (L i) = Op5.fl (L i) ∧ Op5.id (L i) = Op5.id (L i) ∧ Op5.ln (L i) = Op5.ln (L i) ∧ Op5.tk (L i) = Op5.tk (L i) ∧ True]) (by kernel_rfl) (.cons (by exact decide_eq_true (by omega)) (.cons (by omega) (.cons (by omega) (.cons (by assumption) (.cons (by assumption) (.cons (by exact bne_self_eq_false _) (.cons (by rfl) (.cons (by exact w64 (by omega) (by omega)) (.cons (by rfl) (.cons (by (intro _ _; exact ⟨rfl, rfl, rfl, rfl, rfl, trivial⟩)) .nil)))))))))) (Nat.le_of_ble_eq_true (by kernel_rfl))

set_option maxHeartbeats 2000000 in
theorem ob_e (len : Nat) (L : Nat → Op5) : CodeOk Try.prog 1 (loopOf Try.f4 0) (mkSt 63 [(0, .nv (.one (.own 0))), (13, .nv (.one (.own 0))), (14, iA len), (15, iA len)] [.ro 5 len (gO L)]) (.exit 0) (mkSt 63 [(0, .nv (.one (.own 0)))] [.ro 5 len (gO L)]) :=
  code_run GoF_ok (orc := ⟨[false], []⟩) (obl := [decide ((↑len : Int) < (↑len : Int)) = false,
      len = len,
      ∀ (i : Nat), i < len → Op5.k (L i) = Op5.k (L i) ∧ Op5.fl (L i) = Op5.fl (L i) ∧ Op5.id (L i) = Op5.id (L i) ∧ Op5.ln (L i) = Op5.ln (L i) ∧ Op5.tk (L i) = Op5.tk (L i) ∧ True]) (by kernel_rfl) (.cons (by exact decide_eq_false (by omega)) (.cons (by rfl) (.cons (by (intro _ _; exact ⟨rfl, rfl, rfl, rfl, rfl, trivial⟩)) .nil))) (Nat.le_of_ble_eq_true (by kernel_rfl))

set_option maxHeartbeats 2000000 in
theorem ob_t (len : Nat) (L : Nat → Op5) (h : len ≤ 500) (hw : ∀ i, i < len → (L i).wf) (t1 : (allR L len != ((if allR L len = true then (0 : Int) else 6) == 0)) = false) (S : ByteArray) (hS : opsS L len = S) (hz : S.size ≤ 100000000) (hn : numO S = len) (hX : ∀ j, j < numO S → opX S j = L j) (t2 : (!allR L len) = false) (l0 : CodeOk Try.prog 1 (.loop (loopOf Try.f4 0)) (mkSt 63 [(0, .nv (.one (.own 0))), (13, .nv (.one (.own 0))), (14, iA len), (15, iA 0)] [.ro 5 len (gO L)]) (.exit 0) (mkSt 63 [(0, .nv (.one (.own 0)))] [.ro 5 len (gO L)])) : LawOk Try.prog 4 ([.nv (.one (.own 0))]) ([.ro 5 len (gO L)]) (bA true) :=
  law_run GoF_ok Try.func4 (orc := ⟨[false, false, false, false, false, false, true], [⟨mkSt 63 [(0, .nv (.one (.own 0))), (13, .nv (.one (.own 0))), (14, iA len), (15, iA 0)] [.ro 5 len (gO L)], .exit 0, mkSt 63 [(0, .nv (.one (.own 0)))] [.ro 5 len (gO L)]⟩]⟩) (obl := [decide ((↑len : Int) > (500 : Int)) = false,
      (↑len : Int) = (↑len : Int),
      (0 : Int) = (0 : Int),
      len = len,
      ∀ (i : Nat), i < len → Op5.k (L i) = Op5.k (L i) ∧ Op5.fl (L i) = Op5.fl (L i) ∧ Op5.id (L i) = Op5.id (L i) ∧ Op5.ln (L i) = Op5.ln (L i) ∧ Op5.tk (L i) = Op5.tk (L i) ∧ True,
      (1 : Nat) ≤ (1 : Nat),
      CodeOk Try.prog (1 : Nat) (Code.loop (loopOf Try.f4 (0 : Nat))) (mkSt (63 : Nat) [((0 : Nat), SV.nv (NV.one (At.own (0 : Nat)))), ((13 : Nat), SV.nv (NV.one (At.own (0 : Nat)))), ((14 : Nat), iA (↑len : Int)), ((15 : Nat), iA (0 : Int))] [Seg.ro (5 : Nat) len (gO L)]) (Ex.exit (0 : Nat)) (mkSt (63 : Nat) [((0 : Nat), SV.nv (NV.one (At.own (0 : Nat))))] [Seg.ro (5 : Nat) len (gO L)]),
      len ≤ (100000 : Nat),
      ∀ (i : Nat), i < len → Op5.wf (opOf (gO L) i),
      len = len,
      ∀ (i : Nat), i < len → Op5.k (L i) = Op5.k (opOf (gO L) i) ∧ Op5.fl (L i) = Op5.fl (opOf (gO L) i) ∧ Op5.id (L i) = Op5.id (opOf (gO L) i) ∧ Op5.ln (L i) = Op5.ln (opOf (gO L) i) ∧ Op5.tk (L i) = Op5.tk (opOf (gO L) i) ∧ True,
      len ≤ (100000 : Nat),
      ∀ (i : Nat), i < len → Op5.wf (opOf (gO L) i),
      len = len,
      ∀ (i : Nat), i < len → Op5.k (L i) = Op5.k (opOf (gO L) i) ∧ Op5.fl (L i) = Op5.fl (opOf (gO L) i) ∧ Op5.id (L i) = Op5.id (opOf (gO L) i) ∧ Op5.ln (L i) = Op5.ln (opOf (gO L) i) ∧ Op5.tk (L i) = Op5.tk (opOf (gO L) i) ∧ True,
      (!ByteArray.toList (opsS (opOf (gO L)) len) == ByteArray.toList (opsS (opOf (gO L)) len)) = false,
      (!allR (opOf (gO L)) len == ((if allR (opOf (gO L)) len = true then (0 : Int) else (6 : Int)) == (0 : Int))) = false,
      (!allR (opOf (gO L)) len) = false,
      false = false,
      (!allR (opOf (gO L)) len) = false,
      ByteArray.size (opsS (opOf (gO L)) len) ≤ (100000000 : Nat),
      opsS (opOf (gO L)) len = opsS (opOf (gO L)) len,
      ∀ (i : Nat), i < numO (opsS (opOf (gO L)) len) → (true && (true && (true && (true && (true && true))))) = true,
      numO (opsS (opOf (gO L)) len) ≤ (100000000 : Nat),
      ∀ (i : Nat), i < numO (opsS (opOf (gO L)) len) → opOf (gO (opX (opsS (opOf (gO L)) len))) i = opOf (gO L) i,
      numO (opsS (opOf (gO L)) len) = numO (opsS (opOf (gO L)) len),
      ∀ (i : Nat), i < numO (opsS (opOf (gO L)) len) → Op5.k (opX (opsS (opOf (gO L)) len) i) = Op5.k (opOf (gO (opX (opsS (opOf (gO L)) len))) i) ∧ Op5.fl (opX (opsS (opOf (gO L)) len) i) = Op5.fl (opOf (gO (opX (opsS (opOf (gO L)) len))) i) ∧ Op5.id (opX (opsS (opOf (gO L)) len) i) = Op5.id (opOf (gO (opX (opsS (opOf (gO L)) len))) i) ∧ Op5.ln (opX (opsS (opOf (gO L)) len) i) = Op5.ln (opOf (gO (opX (opsS (opOf (gO L)) len))) i) ∧ Op5.tk (opX (opsS (opOf (gO L)) len) i) = Op5.tk (opOf (gO (opX (opsS (opOf (gO L)) len))) i) ∧ True,
      len = numO (opsS (opOf (gO L)) len),
      ∀ (i : Nat), i < len → Op5.k (L i) = Op5.k (opOf (gO L) i) ∧ Op5.fl (L i) = Op5.fl (opOf (gO L) i) ∧ Op5.id (L i) = Op5.id (opOf (gO L) i) ∧ Op5.ln (L i) = Op5.ln (opOf (gO L) i) ∧ Op5.tk (L i) = Op5.tk (opOf (gO L) i) ∧ True,
      true = true,
      true = true]) (by kernel_rfl) (.cons (by exact decide_eq_false (by omega)) (.cons (by rfl) (.cons (by rfl) (.cons (by rfl) (.cons (by (intro _ _; exact ⟨rfl, rfl, rfl, rfl, rfl, trivial⟩)) (.cons (by trivial) (.cons (by assumption) (.cons (by omega) (.cons (by assumption) (.cons (by rfl) (.cons (by (intro _ _; exact ⟨rfl, rfl, rfl, rfl, rfl, trivial⟩)) (.cons (by omega) (.cons (by assumption) (.cons (by rfl) (.cons (by (intro _ _; exact ⟨rfl, rfl, rfl, rfl, rfl, trivial⟩)) (.cons (by exact bne_eq_false_iff_eq.2 rfl) (.cons (by assumption) (.cons (by assumption) (.cons (by rfl) (.cons (by assumption) (.cons (by (show (opsS L len).size ≤ 100000000; rw [hS]; exact hz)) (.cons (by rfl) (.cons (by (intro _ _; rfl)) (.cons (by (show numO (opsS L len) ≤ 100000000; rw [hS, hn]; omega)) (.cons (by (show ∀ j, j < numO (opsS L len) → opX (opsS L len) j = L j; rw [hS]; exact hX)) (.cons (by rfl) (.cons (by (intro _ _; exact ⟨rfl, rfl, rfl, rfl, rfl, trivial⟩)) (.cons (by (show len = numO (opsS L len); rw [hS]; exact hn.symm)) (.cons (by (intro _ _; exact ⟨rfl, rfl, rfl, rfl, rfl, trivial⟩)) (.cons (by rfl) (.cons (by rfl) .nil)))))))))))))))))))))))))))))))

set_option maxHeartbeats 2000000 in
theorem ob_f (len : Nat) (L : Nat → Op5) (h : len ≤ 500) (hw : ∀ i, i < len → (L i).wf) (t1 : (allR L len != ((if allR L len = true then (0 : Int) else 6) == 0)) = false) (t2 : (!allR L len) = true) (t3 : ((if allR L len = true then (0 : Int) else 6) != 6) = false) (l0 : CodeOk Try.prog 1 (.loop (loopOf Try.f4 0)) (mkSt 63 [(0, .nv (.one (.own 0))), (13, .nv (.one (.own 0))), (14, iA len), (15, iA 0)] [.ro 5 len (gO L)]) (.exit 0) (mkSt 63 [(0, .nv (.one (.own 0)))] [.ro 5 len (gO L)])) : LawOk Try.prog 4 ([.nv (.one (.own 0))]) ([.ro 5 len (gO L)]) (bA true) :=
  law_run GoF_ok Try.func4 (orc := ⟨[false, false, false, true, false, true, true], [⟨mkSt 63 [(0, .nv (.one (.own 0))), (13, .nv (.one (.own 0))), (14, iA len), (15, iA 0)] [.ro 5 len (gO L)], .exit 0, mkSt 63 [(0, .nv (.one (.own 0)))] [.ro 5 len (gO L)]⟩]⟩) (obl := [decide ((↑len : Int) > (500 : Int)) = false,
      (↑len : Int) = (↑len : Int),
      (0 : Int) = (0 : Int),
      len = len,
      ∀ (i : Nat), i < len → Op5.k (L i) = Op5.k (L i) ∧ Op5.fl (L i) = Op5.fl (L i) ∧ Op5.id (L i) = Op5.id (L i) ∧ Op5.ln (L i) = Op5.ln (L i) ∧ Op5.tk (L i) = Op5.tk (L i) ∧ True,
      (1 : Nat) ≤ (1 : Nat),
      CodeOk Try.prog (1 : Nat) (Code.loop (loopOf Try.f4 (0 : Nat))) (mkSt (63 : Nat) [((0 : Nat), SV.nv (NV.one (At.own (0 : Nat)))), ((13 : Nat), SV.nv (NV.one (At.own (0 : Nat)))), ((14 : Nat), iA (↑len : Int)), ((15 : Nat), iA (0 : Int))] [Seg.ro (5 : Nat) len (gO L)]) (Ex.exit (0 : Nat)) (mkSt (63 : Nat) [((0 : Nat), SV.nv (NV.one (At.own (0 : Nat))))] [Seg.ro (5 : Nat) len (gO L)]),
      len ≤ (100000 : Nat),
      ∀ (i : Nat), i < len → Op5.wf (opOf (gO L) i),
      len = len,
      ∀ (i : Nat), i < len → Op5.k (L i) = Op5.k (opOf (gO L) i) ∧ Op5.fl (L i) = Op5.fl (opOf (gO L) i) ∧ Op5.id (L i) = Op5.id (opOf (gO L) i) ∧ Op5.ln (L i) = Op5.ln (opOf (gO L) i) ∧ Op5.tk (L i) = Op5.tk (opOf (gO L) i) ∧ True,
      len ≤ (100000 : Nat),
      ∀ (i : Nat), i < len → Op5.wf (opOf (gO L) i),
      len = len,
      ∀ (i : Nat), i < len → Op5.k (L i) = Op5.k (opOf (gO L) i) ∧ Op5.fl (L i) = Op5.fl (opOf (gO L) i) ∧ Op5.id (L i) = Op5.id (opOf (gO L) i) ∧ Op5.ln (L i) = Op5.ln (opOf (gO L) i) ∧ Op5.tk (L i) = Op5.tk (opOf (gO L) i) ∧ True,
      (!ByteArray.toList (opsS (opOf (gO L)) len) == ByteArray.toList (opsS (opOf (gO L)) len)) = false,
      (!allR (opOf (gO L)) len == ((if allR (opOf (gO L)) len = true then (0 : Int) else (6 : Int)) == (0 : Int))) = false,
      (!allR (opOf (gO L)) len) = true,
      ((if allR (opOf (gO L)) len = true then (0 : Int) else (6 : Int)) != (6 : Int)) = false,
      (!allR (opOf (gO L)) len) = true,
      true = true,
      true = true]) (by kernel_rfl) (.cons (by exact decide_eq_false (by omega)) (.cons (by rfl) (.cons (by rfl) (.cons (by rfl) (.cons (by (intro _ _; exact ⟨rfl, rfl, rfl, rfl, rfl, trivial⟩)) (.cons (by trivial) (.cons (by assumption) (.cons (by omega) (.cons (by assumption) (.cons (by rfl) (.cons (by (intro _ _; exact ⟨rfl, rfl, rfl, rfl, rfl, trivial⟩)) (.cons (by omega) (.cons (by assumption) (.cons (by rfl) (.cons (by (intro _ _; exact ⟨rfl, rfl, rfl, rfl, rfl, trivial⟩)) (.cons (by exact bne_eq_false_iff_eq.2 rfl) (.cons (by assumption) (.cons (by assumption) (.cons (by assumption) (.cons (by assumption) (.cons (by rfl) (.cons (by rfl) .nil))))))))))))))))))))))
end Go.Proofs.Ytecgigeahkijaaa
