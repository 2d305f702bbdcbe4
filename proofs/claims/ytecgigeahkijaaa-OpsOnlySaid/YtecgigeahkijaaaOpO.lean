/- Runs of Go code, as printed by a program: no condition beyond those that each states. -/
import Derived.Test.YtecgigeahkijaaaOpN
import Derived.Test.YtecgigeahkijaaaChecked
import Derived.KernelRfl
namespace Go.Proofs.Ytecgigeahkijaaa
set_option linter.unusedVariables false
set_option linter.unusedSimpArgs false
set_option maxRecDepth 100000
open Go.RowKit E
attribute [local irreducible] rgt fldN fldF putStr badZ
set_option maxHeartbeats 2000000 in
theorem pp_n (len i n N : Nat) (L : Nat → Op5) (F H : Nat → Int) (T : ByteArray) (hi : i < len) (hl : len ≤ 100000) (w0 : 0 ≤ (L i).ln) (hr : rgt ⟨(L i).k, (L i).fl, (L i).id, (L i).ln, (L i).tk⟩ = true) (k0 : 0 ≤ (L i).k) (k4 : (L i).k ≤ 4) (f0 : 0 ≤ (L i).fl) (f1 : (L i).fl < 4294967296) (i0 : 0 ≤ (L i).id) (i1 : (L i).id < 4294967296) (hfn : fldN ⟨(L i).k, (L i).fl, (L i).id, (L i).ln, (L i).tk⟩ ≤ 1000) (hw : ∀ j, j < fldN ⟨(L i).k, (L i).fl, (L i).id, (L i).ln, (L i).tk⟩ → (fldF ⟨(L i).k, (L i).fl, (L i).id, (L i).ln, (L i).tk⟩ j).wf) (eT : putStr (fldF ⟨(L i).k, (L i).fl, (L i).id, (L i).ln, (L i).tk⟩) (fldN ⟨(L i).k, (L i).fl, (L i).id, (L i).ln, (L i).tk⟩) = T) (hn : n + T.size ≤ 140737488355328) (e3 : n + T.size = N) (e4 : ∀ j, j < n + T.size → catF n F (ints T) j = H j) : CodeOk Try.prog 1 (loopOf Try.f12 0) (mkSt 28 [(4, .nv (.one (.ptr 1 0))), (9, .nv (.one (.own 0))), (10, iA len), (11, iA i)] [.ro 5 len (gO L), .box 52 [.optr 1, .own 2], .row 5 1 n (gB F)]) .normal (mkSt 28 [(4, .nv (.one (.ptr 1 0))), (9, .nv (.one (.own 0))), (10, iA len), (11, iA (i + 1))] [.ro 5 len (gO L), .box 52 [.optr 1, .own 2], .row 5 1 N (gB H)]) :=
  code_run GoE_ok (orc := ⟨[true, false], []⟩) (obl := [decide ((↑i : Int) < (↑len : Int)) = true,
      (0 : Int) ≤ (↑i : Int),
      (↑i : Int) < (↑len : Int),
      Int.toNat (↑i : Int) < len,
      (0 : Int) ≤ Op5.ln (L (Int.toNat (↑i : Int))),
      (!rgt { k := Op5.k (L (Int.toNat (↑i : Int))), fl := Op5.fl (L (Int.toNat (↑i : Int))), id := Op5.id (L (Int.toNat (↑i : Int))), ln := Op5.ln (L (Int.toNat (↑i : Int))), tk := Op5.tk (L (Int.toNat (↑i : Int))) }) = false,
      (0 : Int) ≤ Op5.k (L (Int.toNat (↑i : Int))),
      Op5.k (L (Int.toNat (↑i : Int))) ≤ (4 : Int),
      (0 : Int) ≤ Op5.fl (L (Int.toNat (↑i : Int))),
      Op5.fl (L (Int.toNat (↑i : Int))) < (4294967296 : Int),
      (0 : Int) ≤ Op5.id (L (Int.toNat (↑i : Int))),
      Op5.id (L (Int.toNat (↑i : Int))) < (4294967296 : Int),
      Op5.k (L (Int.toNat (↑i : Int))) = Op5.k (L (Int.toNat (↑i : Int))),
      Op5.fl (L (Int.toNat (↑i : Int))) = Op5.fl (L (Int.toNat (↑i : Int))),
      Op5.id (L (Int.toNat (↑i : Int))) = Op5.id (L (Int.toNat (↑i : Int))),
      Op5.ln (L (Int.toNat (↑i : Int))) = Op5.ln (L (Int.toNat (↑i : Int))),
      Op5.tk (L (Int.toNat (↑i : Int))) = Op5.tk (L (Int.toNat (↑i : Int))),
      ∀ (i_1 : Nat), i_1 < fldN { k := Op5.k (L (Int.toNat (↑i : Int))), fl := Op5.fl (L (Int.toNat (↑i : Int))), id := Op5.id (L (Int.toNat (↑i : Int))), ln := Op5.ln (L (Int.toNat (↑i : Int))), tk := Op5.tk (L (Int.toNat (↑i : Int))) } → (true && (true && (true && true))) = true,
      fldN { k := Op5.k (L (Int.toNat (↑i : Int))), fl := Op5.fl (L (Int.toNat (↑i : Int))), id := Op5.id (L (Int.toNat (↑i : Int))), ln := Op5.ln (L (Int.toNat (↑i : Int))), tk := Op5.tk (L (Int.toNat (↑i : Int))) } ≤ (1000 : Nat),
      ∀ (i_1 : Nat), i_1 < fldN { k := Op5.k (L (Int.toNat (↑i : Int))), fl := Op5.fl (L (Int.toNat (↑i : Int))), id := Op5.id (L (Int.toNat (↑i : Int))), ln := Op5.ln (L (Int.toNat (↑i : Int))), tk := Op5.tk (L (Int.toNat (↑i : Int))) } → Fl.wf (flOf (gF (fldF { k := Op5.k (L (Int.toNat (↑i : Int))), fl := Op5.fl (L (Int.toNat (↑i : Int))), id := Op5.id (L (Int.toNat (↑i : Int))), ln := Op5.ln (L (Int.toNat (↑i : Int))), tk := Op5.tk (L (Int.toNat (↑i : Int))) })) i_1),
      fldN { k := Op5.k (L (Int.toNat (↑i : Int))), fl := Op5.fl (L (Int.toNat (↑i : Int))), id := Op5.id (L (Int.toNat (↑i : Int))), ln := Op5.ln (L (Int.toNat (↑i : Int))), tk := Op5.tk (L (Int.toNat (↑i : Int))) } = fldN { k := Op5.k (L (Int.toNat (↑i : Int))), fl := Op5.fl (L (Int.toNat (↑i : Int))), id := Op5.id (L (Int.toNat (↑i : Int))), ln := Op5.ln (L (Int.toNat (↑i : Int))), tk := Op5.tk (L (Int.toNat (↑i : Int))) },
      ∀ (i_1 : Nat), i_1 < fldN { k := Op5.k (L (Int.toNat (↑i : Int))), fl := Op5.fl (L (Int.toNat (↑i : Int))), id := Op5.id (L (Int.toNat (↑i : Int))), ln := Op5.ln (L (Int.toNat (↑i : Int))), tk := Op5.tk (L (Int.toNat (↑i : Int))) } → Fl.k (fldF { k := Op5.k (L (Int.toNat (↑i : Int))), fl := Op5.fl (L (Int.toNat (↑i : Int))), id := Op5.id (L (Int.toNat (↑i : Int))), ln := Op5.ln (L (Int.toNat (↑i : Int))), tk := Op5.tk (L (Int.toNat (↑i : Int))) } i_1) = Fl.k (flOf (gF (fldF { k := Op5.k (L (Int.toNat (↑i : Int))), fl := Op5.fl (L (Int.toNat (↑i : Int))), id := Op5.id (L (Int.toNat (↑i : Int))), ln := Op5.ln (L (Int.toNat (↑i : Int))), tk := Op5.tk (L (Int.toNat (↑i : Int))) })) i_1) ∧ Fl.n (fldF { k := Op5.k (L (Int.toNat (↑i : Int))), fl := Op5.fl (L (Int.toNat (↑i : Int))), id := Op5.id (L (Int.toNat (↑i : Int))), ln := Op5.ln (L (Int.toNat (↑i : Int))), tk := Op5.tk (L (Int.toNat (↑i : Int))) } i_1) = Fl.n (flOf (gF (fldF { k := Op5.k (L (Int.toNat (↑i : Int))), fl := Op5.fl (L (Int.toNat (↑i : Int))), id := Op5.id (L (Int.toNat (↑i : Int))), ln := Op5.ln (L (Int.toNat (↑i : Int))), tk := Op5.tk (L (Int.toNat (↑i : Int))) })) i_1) ∧ Fl.s (fldF { k := Op5.k (L (Int.toNat (↑i : Int))), fl := Op5.fl (L (Int.toNat (↑i : Int))), id := Op5.id (L (Int.toNat (↑i : Int))), ln := Op5.ln (L (Int.toNat (↑i : Int))), tk := Op5.tk (L (Int.toNat (↑i : Int))) } i_1) = Fl.s (flOf (gF (fldF { k := Op5.k (L (Int.toNat (↑i : Int))), fl := Op5.fl (L (Int.toNat (↑i : Int))), id := Op5.id (L (Int.toNat (↑i : Int))), ln := Op5.ln (L (Int.toNat (↑i : Int))), tk := Op5.tk (L (Int.toNat (↑i : Int))) })) i_1) ∧ True,
      n + ByteArray.size (putStr (flOf (gF (fldF { k := Op5.k (L (Int.toNat (↑i : Int))), fl := Op5.fl (L (Int.toNat (↑i : Int))), id := Op5.id (L (Int.toNat (↑i : Int))), ln := Op5.ln (L (Int.toNat (↑i : Int))), tk := Op5.tk (L (Int.toNat (↑i : Int))) }))) (fldN { k := Op5.k (L (Int.toNat (↑i : Int))), fl := Op5.fl (L (Int.toNat (↑i : Int))), id := Op5.id (L (Int.toNat (↑i : Int))), ln := Op5.ln (L (Int.toNat (↑i : Int))), tk := Op5.tk (L (Int.toNat (↑i : Int))) })) ≤ (140737488355328 : Nat),
      (0 : Nat) = (0 : Nat),
      putStr (flOf (gF (fldF { k := Op5.k (L (Int.toNat (↑i : Int))), fl := Op5.fl (L (Int.toNat (↑i : Int))), id := Op5.id (L (Int.toNat (↑i : Int))), ln := Op5.ln (L (Int.toNat (↑i : Int))), tk := Op5.tk (L (Int.toNat (↑i : Int))) }))) (fldN { k := Op5.k (L (Int.toNat (↑i : Int))), fl := Op5.fl (L (Int.toNat (↑i : Int))), id := Op5.id (L (Int.toNat (↑i : Int))), ln := Op5.ln (L (Int.toNat (↑i : Int))), tk := Op5.tk (L (Int.toNat (↑i : Int))) }) = putStr (flOf (gF (fldF { k := Op5.k (L (Int.toNat (↑i : Int))), fl := Op5.fl (L (Int.toNat (↑i : Int))), id := Op5.id (L (Int.toNat (↑i : Int))), ln := Op5.ln (L (Int.toNat (↑i : Int))), tk := Op5.tk (L (Int.toNat (↑i : Int))) }))) (fldN { k := Op5.k (L (Int.toNat (↑i : Int))), fl := Op5.fl (L (Int.toNat (↑i : Int))), id := Op5.id (L (Int.toNat (↑i : Int))), ln := Op5.ln (L (Int.toNat (↑i : Int))), tk := Op5.tk (L (Int.toNat (↑i : Int))) }),
      n = n,
      ∀ (i : Nat), i < n → F i = F i ∧ True,
      ∀ (i_1 : Nat), i_1 < n + ByteArray.size (putStr (flOf (gF (fldF { k := Op5.k (L (Int.toNat (↑i : Int))), fl := Op5.fl (L (Int.toNat (↑i : Int))), id := Op5.id (L (Int.toNat (↑i : Int))), ln := Op5.ln (L (Int.toNat (↑i : Int))), tk := Op5.tk (L (Int.toNat (↑i : Int))) }))) (fldN { k := Op5.k (L (Int.toNat (↑i : Int))), fl := Op5.fl (L (Int.toNat (↑i : Int))), id := Op5.id (L (Int.toNat (↑i : Int))), ln := Op5.ln (L (Int.toNat (↑i : Int))), tk := Op5.tk (L (Int.toNat (↑i : Int))) })) → (true && true) = true,
      (0 : Nat) = (0 : Nat),
      (↑len : Int) = (↑len : Int),
      IntKind.wrap IntKind.i64 ((↑i : Int) + (1 : Int)) = (↑i : Int) + (1 : Int),
      len = len,
      ∀ (i : Nat), i < len → Op5.k (L i) = Op5.k (L i) ∧ Op5.fl (L i) = Op5.fl (L i) ∧ Op5.id (L i) = Op5.id (L i) ∧ Op5.ln (L i) = Op5.ln (L i) ∧ Op5.tk (L i) = Op5.tk (L i) ∧ True,
      n + ByteArray.size (putStr (flOf (gF (fldF { k := Op5.k (L (Int.toNat (↑i : Int))), fl := Op5.fl (L (Int.toNat (↑i : Int))), id := Op5.id (L (Int.toNat (↑i : Int))), ln := Op5.ln (L (Int.toNat (↑i : Int))), tk := Op5.tk (L (Int.toNat (↑i : Int))) }))) (fldN { k := Op5.k (L (Int.toNat (↑i : Int))), fl := Op5.fl (L (Int.toNat (↑i : Int))), id := Op5.id (L (Int.toNat (↑i : Int))), ln := Op5.ln (L (Int.toNat (↑i : Int))), tk := Op5.tk (L (Int.toNat (↑i : Int))) })) = N,
      ∀ (i_1 : Nat), i_1 < n + ByteArray.size (putStr (flOf (gF (fldF { k := Op5.k (L (Int.toNat (↑i : Int))), fl := Op5.fl (L (Int.toNat (↑i : Int))), id := Op5.id (L (Int.toNat (↑i : Int))), ln := Op5.ln (L (Int.toNat (↑i : Int))), tk := Op5.tk (L (Int.toNat (↑i : Int))) }))) (fldN { k := Op5.k (L (Int.toNat (↑i : Int))), fl := Op5.fl (L (Int.toNat (↑i : Int))), id := Op5.id (L (Int.toNat (↑i : Int))), ln := Op5.ln (L (Int.toNat (↑i : Int))), tk := Op5.tk (L (Int.toNat (↑i : Int))) })) → catF n (fun (k : Nat) => F k) (ints (putStr (flOf (gF (fldF { k := Op5.k (L (Int.toNat (↑i : Int))), fl := Op5.fl (L (Int.toNat (↑i : Int))), id := Op5.id (L (Int.toNat (↑i : Int))), ln := Op5.ln (L (Int.toNat (↑i : Int))), tk := Op5.tk (L (Int.toNat (↑i : Int))) }))) (fldN { k := Op5.k (L (Int.toNat (↑i : Int))), fl := Op5.fl (L (Int.toNat (↑i : Int))), id := Op5.id (L (Int.toNat (↑i : Int))), ln := Op5.ln (L (Int.toNat (↑i : Int))), tk := Op5.tk (L (Int.toNat (↑i : Int))) }))) i_1 = H i_1 ∧ True]) (by kernel_rfl) (.cons (by exact decide_eq_true (by omega)) (.cons (by omega) (.cons (by omega) (.cons (by assumption) (.cons (by assumption) (.cons (by (simp [*]; done)) (.cons (by assumption) (.cons (by assumption) (.cons (by assumption) (.cons (by assumption) (.cons (by assumption) (.cons (by assumption) (.cons (by rfl) (.cons (by rfl) (.cons (by rfl) (.cons (by rfl) (.cons (by rfl) (.cons (by (intro _ _; rfl)) (.cons (by assumption) (.cons (by assumption) (.cons (by rfl) (.cons (by (intro _ _; exact ⟨rfl, rfl, rfl, trivial⟩)) (.cons (by (show n + (putStr (fldF ⟨(L i).k, (L i).fl, (L i).id, (L i).ln, (L i).tk⟩) (fldN ⟨(L i).k, (L i).fl, (L i).id, (L i).ln, (L i).tk⟩)).size ≤ 140737488355328; rw [eT]; exact hn)) (.cons (by rfl) (.cons (by rfl) (.cons (by rfl) (.cons (by (intro _ _; exact ⟨rfl, trivial⟩)) (.cons (by (intro _ _; rfl)) (.cons (by rfl) (.cons (by rfl) (.cons (by exact w64 (by omega) (by omega)) (.cons (by rfl) (.cons (by (intro _ _; exact ⟨rfl, rfl, rfl, rfl, rfl, trivial⟩)) (.cons (by (show n + (putStr (fldF ⟨(L i).k, (L i).fl, (L i).id, (L i).ln, (L i).tk⟩) (fldN ⟨(L i).k, (L i).fl, (L i).id, (L i).ln, (L i).tk⟩)).size = N; rw [eT]; exact e3)) (.cons (by (intro j hj; have hj : j < n + (putStr (fldF ⟨(L i).k, (L i).fl, (L i).id, (L i).ln, (L i).tk⟩) (fldN ⟨(L i).k, (L i).fl, (L i).id, (L i).ln, (L i).tk⟩)).size := hj; show catF n F (ints (putStr (fldF ⟨(L i).k, (L i).fl, (L i).id, (L i).ln, (L i).tk⟩) (fldN ⟨(L i).k, (L i).fl, (L i).id, (L i).ln, (L i).tk⟩))) j = H j ∧ True; rw [eT] at hj ⊢; exact ⟨e4 j hj, trivial⟩)) .nil))))))))))))))))))))))))))))))))))) (Nat.le_of_ble_eq_true (by kernel_rfl))

set_option maxHeartbeats 2000000 in
theorem pp_r (len i n : Nat) (L : Nat → Op5) (F : Nat → Int) (hi : i < len) (hl : len ≤ 100000) (w0 : 0 ≤ (L i).ln) (hr : rgt ⟨(L i).k, (L i).fl, (L i).id, (L i).ln, (L i).tk⟩ = false) : CodeOk Try.prog 1 (loopOf Try.f12 0) (mkSt 28 [(4, .nv (.one (.ptr 1 0))), (9, .nv (.one (.own 0))), (10, iA len), (11, iA i)] [.ro 5 len (gO L), .box 52 [.optr 1, .own 2], .row 5 1 n (gB F)]) .ret (mkSt 28 [(2, sA ⟨#[]⟩), (3, iA 6)] [.ro 5 len (gO L)]) :=
  code_run GoE_ok (orc := ⟨[true, true], []⟩) (obl := [decide ((↑i : Int) < (↑len : Int)) = true,
      (0 : Int) ≤ (↑i : Int),
      (↑i : Int) < (↑len : Int),
      Int.toNat (↑i : Int) < len,
      (0 : Int) ≤ Op5.ln (L (Int.toNat (↑i : Int))),
      (!rgt { k := Op5.k (L (Int.toNat (↑i : Int))), fl := Op5.fl (L (Int.toNat (↑i : Int))), id := Op5.id (L (Int.toNat (↑i : Int))), ln := Op5.ln (L (Int.toNat (↑i : Int))), tk := Op5.tk (L (Int.toNat (↑i : Int))) }) = true,
      (ByteArray.mk #[]) = (ByteArray.mk #[]),
      (6 : Int) = (6 : Int),
      len = len,
      ∀ (i : Nat), i < len → Op5.k (L i) = Op5.k (L i) ∧ Op5.fl (L i) = Op5.fl (L i) ∧ Op5.id (L i) = Op5.id (L i) ∧ Op5.ln (L i) = Op5.ln (L i) ∧ Op5.tk (L i) = Op5.tk (L i) ∧ True]) (by kernel_rfl) (.cons (by exact decide_eq_true (by omega)) (.cons (by omega) (.cons (by omega) (.cons (by assumption) (.cons (by assumption) (.cons (by (simp [*]; done)) (.cons (by rfl) (.cons (by rfl) (.cons (by rfl) (.cons (by (intro _ _; exact ⟨rfl, rfl, rfl, rfl, rfl, trivial⟩)) .nil)))))))))) (Nat.le_of_ble_eq_true (by kernel_rfl))

set_option maxHeartbeats 2000000 in
theorem pp_e (len n : Nat) (L : Nat → Op5) (F : Nat → Int) : CodeOk Try.prog 1 (loopOf Try.f12 0) (mkSt 28 [(4, .nv (.one (.ptr 1 0))), (9, .nv (.one (.own 0))), (10, iA len), (11, iA len)] [.ro 5 len (gO L), .box 52 [.optr 1, .own 2], .row 5 1 n (gB F)]) (.exit 0) (mkSt 28 [(4, .nv (.one (.ptr 1 0)))] [.ro 5 len (gO L), .box 52 [.optr 1, .own 2], .row 5 1 n (gB F)]) :=
  code_run GoE_ok (orc := ⟨[false], []⟩) (obl := [decide ((↑len : Int) < (↑len : Int)) = false,
      (0 : Nat) = (0 : Nat),
      len = len,
      ∀ (i : Nat), i < len → Op5.k (L i) = Op5.k (L i) ∧ Op5.fl (L i) = Op5.fl (L i) ∧ Op5.id (L i) = Op5.id (L i) ∧ Op5.ln (L i) = Op5.ln (L i) ∧ Op5.tk (L i) = Op5.tk (L i) ∧ True,
      n = n,
      ∀ (i : Nat), i < n → F i = F i ∧ True]) (by kernel_rfl) (.cons (by exact decide_eq_false (by omega)) (.cons (by rfl) (.cons (by rfl) (.cons (by (intro _ _; exact ⟨rfl, rfl, rfl, rfl, rfl, trivial⟩)) (.cons (by rfl) (.cons (by (intro _ _; exact ⟨rfl, trivial⟩)) .nil)))))) (Nat.le_of_ble_eq_true (by kernel_rfl))

set_option maxHeartbeats 2000000 in
theorem pp_k (len n : Nat) (L : Nat → Op5) (F0 F : Nat → Int) (h0 : 0 < n) (hR : byteR n F) (l0 : CodeOk Try.prog 1 (.loop (loopOf Try.f12 0)) (mkSt 28 [(4, .nv (.one (.ptr 1 0))), (9, .nv (.one (.own 0))), (10, iA len), (11, iA 0)] [.ro 5 len (gO L), .box 52 [.optr 1, .own 2], .row 5 1 0 (gB F0)]) (.exit 0) (mkSt 28 [(4, .nv (.one (.ptr 1 0)))] [.ro 5 len (gO L), .box 52 [.optr 1, .own 2], .row 5 1 n (gB F)])) : FnOk Try.prog 12 ([.nv (.one (.own 0))]) ([.ro 5 len (gO L)]) (.tup [.one (.val (.string (bstr n F))), .one (.val (.int .i64 0))]) ([.ro 5 len (gO L)]) :=
  fn_run GoE_ok Try.func12 (orc := ⟨[], [⟨mkSt 28 [(4, .nv (.one (.ptr 1 0))), (9, .nv (.one (.own 0))), (10, iA len), (11, iA 0)] [.ro 5 len (gO L), .box 52 [.optr 1, .own 2], .row 5 1 0 (gB F0)], .exit 0, mkSt 28 [(4, .nv (.one (.ptr 1 0)))] [.ro 5 len (gO L), .box 52 [.optr 1, .own 2], .row 5 1 n (gB F)]⟩]⟩) (obl := [(0 : Nat) = (0 : Nat),
      (↑len : Int) = (↑len : Int),
      (0 : Int) = (0 : Int),
      len = len,
      ∀ (i : Nat), i < len → Op5.k (L i) = Op5.k (L i) ∧ Op5.fl (L i) = Op5.fl (L i) ∧ Op5.id (L i) = Op5.id (L i) ∧ Op5.ln (L i) = Op5.ln (L i) ∧ Op5.tk (L i) = Op5.tk (L i) ∧ True,
      (0 : Nat) = (0 : Nat),
      (1 : Nat) ≤ (3 : Nat),
      CodeOk Try.prog (1 : Nat) (Code.loop (loopOf Try.f12 (0 : Nat))) (mkSt (28 : Nat) [((4 : Nat), SV.nv (NV.one (At.ptr (1 : Nat) (0 : Nat)))), ((9 : Nat), SV.nv (NV.one (At.own (0 : Nat)))), ((10 : Nat), iA (↑len : Int)), ((11 : Nat), iA (0 : Int))] [Seg.ro (5 : Nat) len (gO L), Seg.box (52 : TypeId) [At.optr (1 : Nat), At.own (2 : Nat)], Seg.row (5 : TypeId) (1 : Nat) (0 : Nat) (gB F0)]) (Ex.exit (0 : Nat)) (mkSt (28 : Nat) [((4 : Nat), SV.nv (NV.one (At.ptr (1 : Nat) (0 : Nat))))] [Seg.ro (5 : Nat) len (gO L), Seg.box (52 : TypeId) [At.optr (1 : Nat), At.own (2 : Nat)], Seg.row (5 : TypeId) (1 : Nat) n (gB F)]),
      (0 : Nat) < n,
      byteR n fun (k : Nat) => F k,
      (0 : Nat) = (0 : Nat),
      n = n,
      ∀ (i : Nat), i < n → F i = F i ∧ True,
      (bstr n fun (k : Nat) => F k) = bstr n F,
      (0 : Int) = (0 : Int),
      len = len,
      ∀ (i : Nat), i < len → Op5.k (L i) = Op5.k (L i) ∧ Op5.fl (L i) = Op5.fl (L i) ∧ Op5.id (L i) = Op5.id (L i) ∧ Op5.ln (L i) = Op5.ln (L i) ∧ Op5.tk (L i) = Op5.tk (L i) ∧ True]) (by kernel_rfl) (.cons (by rfl) (.cons (by rfl) (.cons (by rfl) (.cons (by rfl) (.cons (by (intro _ _; exact ⟨rfl, rfl, rfl, rfl, rfl, trivial⟩)) (.cons (by rfl) (.cons (by trivial) (.cons (by assumption) (.cons (by assumption) (.cons (by assumption) (.cons (by rfl) (.cons (by rfl) (.cons (by (intro _ _; exact ⟨rfl, trivial⟩)) (.cons (by rfl) (.cons (by rfl) (.cons (by rfl) (.cons (by (intro _ _; exact ⟨rfl, rfl, rfl, rfl, rfl, trivial⟩)) .nil))))))))))))))))) (Nat.le_of_ble_eq_true (by kernel_rfl))

set_option maxHeartbeats 2000000 in
theorem pp_x (len : Nat) (L : Nat → Op5) (F0 : Nat → Int) (l0 : CodeOk Try.prog 1 (.loop (loopOf Try.f12 0)) (mkSt 28 [(4, .nv (.one (.ptr 1 0))), (9, .nv (.one (.own 0))), (10, iA len), (11, iA 0)] [.ro 5 len (gO L), .box 52 [.optr 1, .own 2], .row 5 1 0 (gB F0)]) .ret (mkSt 28 [(2, sA ⟨#[]⟩), (3, iA 6)] [.ro 5 len (gO L)])) : FnOk Try.prog 12 ([.nv (.one (.own 0))]) ([.ro 5 len (gO L)]) (.tup [.one (.val (.string ⟨#[]⟩)), .one (.val (.int .i64 6))]) ([.ro 5 len (gO L)]) :=
  fn_run GoE_ok Try.func12 (orc := ⟨[], [⟨mkSt 28 [(4, .nv (.one (.ptr 1 0))), (9, .nv (.one (.own 0))), (10, iA len), (11, iA 0)] [.ro 5 len (gO L), .box 52 [.optr 1, .own 2], .row 5 1 0 (gB F0)], .ret, mkSt 28 [(2, sA ⟨#[]⟩), (3, iA 6)] [.ro 5 len (gO L)]⟩]⟩) (obl := [(0 : Nat) = (0 : Nat),
      (↑len : Int) = (↑len : Int),
      (0 : Int) = (0 : Int),
      len = len,
      ∀ (i : Nat), i < len → Op5.k (L i) = Op5.k (L i) ∧ Op5.fl (L i) = Op5.fl (L i) ∧ Op5.id (L i) = Op5.id (L i) ∧ Op5.ln (L i) = Op5.ln (L i) ∧ Op5.tk (L i) = Op5.tk (L i) ∧ True,
      (0 : Nat) = (0 : Nat),
      (1 : Nat) ≤ (3 : Nat),
      CodeOk Try.prog (1 : Nat) (Code.loop (loopOf Try.f12 (0 : Nat))) (mkSt (28 : Nat) [((4 : Nat), SV.nv (NV.one (At.ptr (1 : Nat) (0 : Nat)))), ((9 : Nat), SV.nv (NV.one (At.own (0 : Nat)))), ((10 : Nat), iA (↑len : Int)), ((11 : Nat), iA (0 : Int))] [Seg.ro (5 : Nat) len (gO L), Seg.box (52 : TypeId) [At.optr (1 : Nat), At.own (2 : Nat)], Seg.row (5 : TypeId) (1 : Nat) (0 : Nat) (gB F0)]) Ex.ret (mkSt (28 : Nat) [((2 : Nat), sA (ByteArray.mk #[])), ((3 : Nat), iA (6 : Int))] [Seg.ro (5 : Nat) len (gO L)]),
      (ByteArray.mk #[]) = (ByteArray.mk #[]),
      (6 : Int) = (6 : Int),
      len = len,
      ∀ (i : Nat), i < len → Op5.k (L i) = Op5.k (L i) ∧ Op5.fl (L i) = Op5.fl (L i) ∧ Op5.id (L i) = Op5.id (L i) ∧ Op5.ln (L i) = Op5.ln (L i) ∧ Op5.tk (L i) = Op5.tk (L i) ∧ True]) (by kernel_rfl) (.cons (by rfl) (.cons (by rfl) (.cons (by rfl) (.cons (by rfl) (.cons (by (intro _ _; exact ⟨rfl, rfl, rfl, rfl, rfl, trivial⟩)) (.cons (by rfl) (.cons (by trivial) (.cons (by assumption) (.cons (by rfl) (.cons (by rfl) (.cons (by rfl) (.cons (by (intro _ _; exact ⟨rfl, rfl, rfl, rfl, rfl, trivial⟩)) .nil)))))))))))) (Nat.le_of_ble_eq_true (by kernel_rfl))

set_option maxHeartbeats 2000000 in
theorem pp_0 (L : Nat → Op5) : FnOk Try.prog 12 ([.nv (.one (.own 0))]) ([.ro 5 0 (gO L)]) (.tup [.one (.val (.string .empty)), .one (.val (.int .i64 0))]) ([.ro 5 0 (gO L)]) :=
  fn_run GoE_ok Try.func12 (orc := ⟨[false], [unroll 1]⟩) (obl := [decide ((0 : Int) < (↑(0 : Nat) : Int)) = false,
      (0 : Nat) = (0 : Nat),
      Value.slice none (0 : Nat) (0 : Nat) = Value.slice none (0 : Nat) (0 : Nat),
      ByteArray.empty = ByteArray.empty,
      (0 : Int) = (0 : Int),
      (0 : Nat) = (0 : Nat),
      ∀ (i : Nat), i < (0 : Nat) → Op5.k (L i) = Op5.k (L i) ∧ Op5.fl (L i) = Op5.fl (L i) ∧ Op5.id (L i) = Op5.id (L i) ∧ Op5.ln (L i) = Op5.ln (L i) ∧ Op5.tk (L i) = Op5.tk (L i) ∧ True]) (by kernel_rfl) (.cons (by rfl) (.cons (by rfl) (.cons (by rfl) (.cons (by rfl) (.cons (by rfl) (.cons (by rfl) (.cons (by (intro _ _; exact ⟨rfl, rfl, rfl, rfl, rfl, trivial⟩)) .nil))))))) (Nat.le_of_ble_eq_true (by kernel_rfl))

set_option maxHeartbeats 2000000 in
theorem qq_n (len i : Nat) (L : Nat → Op5) (s r T : ByteArray) (hi : i < len) (hl : len ≤ 100000) (w0 : 0 ≤ (L i).ln) (hr : rgt ⟨(L i).k, (L i).fl, (L i).id, (L i).ln, (L i).tk⟩ = true) (k0 : 0 ≤ (L i).k) (k4 : (L i).k ≤ 4) (f0 : 0 ≤ (L i).fl) (f1 : (L i).fl < 4294967296) (i0 : 0 ≤ (L i).id) (i1 : (L i).id < 4294967296) (hfn : fldN ⟨(L i).k, (L i).fl, (L i).id, (L i).ln, (L i).tk⟩ ≤ 1000) (hw : ∀ j, j < fldN ⟨(L i).k, (L i).fl, (L i).id, (L i).ln, (L i).tk⟩ → (fldF ⟨(L i).k, (L i).fl, (L i).id, (L i).ln, (L i).tk⟩ j).wf) (eT : putStr (fldF ⟨(L i).k, (L i).fl, (L i).id, (L i).ln, (L i).tk⟩) (fldN ⟨(L i).k, (L i).fl, (L i).id, (L i).ln, (L i).tk⟩) = T) (hz : ((s.size + T.size : Nat) : Int) ≤ IntKind.max IntKind.i64) (er : s ++ T = r) : CodeOk Try.prog 1 (loopOf Try.f13 0) (mkSt 33 [(0, .nv (.one (.own 0))), (4, sA s), (5, iA i)] [.ro 5 len (gO L)]) .normal (mkSt 33 [(0, .nv (.one (.own 0))), (4, sA r), (5, iA (i + 1))] [.ro 5 len (gO L)]) :=
  code_run GoE_ok (orc := ⟨[true, false], []⟩) (obl := [decide ((↑i : Int) < (↑len : Int)) = true,
      (0 : Int) ≤ (↑i : Int),
      (↑i : Int) < (↑len : Int),
      Int.toNat (↑i : Int) < len,
      (!rgt { k := Op5.k (L (Int.toNat (↑i : Int))), fl := Op5.fl (L (Int.toNat (↑i : Int))), id := Op5.id (L (Int.toNat (↑i : Int))), ln := Op5.ln (L (Int.toNat (↑i : Int))), tk := Op5.tk (L (Int.toNat (↑i : Int))) }) = false,
      (0 : Int) ≤ (↑i : Int),
      (↑i : Int) < (↑len : Int),
      Int.toNat (↑i : Int) < len,
      (0 : Int) ≤ Op5.k (L (Int.toNat (↑i : Int))),
      Op5.k (L (Int.toNat (↑i : Int))) ≤ (4 : Int),
      (0 : Int) ≤ Op5.fl (L (Int.toNat (↑i : Int))),
      Op5.fl (L (Int.toNat (↑i : Int))) < (4294967296 : Int),
      (0 : Int) ≤ Op5.id (L (Int.toNat (↑i : Int))),
      Op5.id (L (Int.toNat (↑i : Int))) < (4294967296 : Int),
      Op5.k (L (Int.toNat (↑i : Int))) = Op5.k (L (Int.toNat (↑i : Int))),
      Op5.fl (L (Int.toNat (↑i : Int))) = Op5.fl (L (Int.toNat (↑i : Int))),
      Op5.id (L (Int.toNat (↑i : Int))) = Op5.id (L (Int.toNat (↑i : Int))),
      Op5.ln (L (Int.toNat (↑i : Int))) = Op5.ln (L (Int.toNat (↑i : Int))),
      Op5.tk (L (Int.toNat (↑i : Int))) = Op5.tk (L (Int.toNat (↑i : Int))),
      ∀ (i_1 : Nat), i_1 < fldN { k := Op5.k (L (Int.toNat (↑i : Int))), fl := Op5.fl (L (Int.toNat (↑i : Int))), id := Op5.id (L (Int.toNat (↑i : Int))), ln := Op5.ln (L (Int.toNat (↑i : Int))), tk := Op5.tk (L (Int.toNat (↑i : Int))) } → (true && (true && (true && true))) = true,
      fldN { k := Op5.k (L (Int.toNat (↑i : Int))), fl := Op5.fl (L (Int.toNat (↑i : Int))), id := Op5.id (L (Int.toNat (↑i : Int))), ln := Op5.ln (L (Int.toNat (↑i : Int))), tk := Op5.tk (L (Int.toNat (↑i : Int))) } ≤ (1000 : Nat),
      ∀ (i_1 : Nat), i_1 < fldN { k := Op5.k (L (Int.toNat (↑i : Int))), fl := Op5.fl (L (Int.toNat (↑i : Int))), id := Op5.id (L (Int.toNat (↑i : Int))), ln := Op5.ln (L (Int.toNat (↑i : Int))), tk := Op5.tk (L (Int.toNat (↑i : Int))) } → Fl.wf (flOf (gF (fldF { k := Op5.k (L (Int.toNat (↑i : Int))), fl := Op5.fl (L (Int.toNat (↑i : Int))), id := Op5.id (L (Int.toNat (↑i : Int))), ln := Op5.ln (L (Int.toNat (↑i : Int))), tk := Op5.tk (L (Int.toNat (↑i : Int))) })) i_1),
      fldN { k := Op5.k (L (Int.toNat (↑i : Int))), fl := Op5.fl (L (Int.toNat (↑i : Int))), id := Op5.id (L (Int.toNat (↑i : Int))), ln := Op5.ln (L (Int.toNat (↑i : Int))), tk := Op5.tk (L (Int.toNat (↑i : Int))) } = fldN { k := Op5.k (L (Int.toNat (↑i : Int))), fl := Op5.fl (L (Int.toNat (↑i : Int))), id := Op5.id (L (Int.toNat (↑i : Int))), ln := Op5.ln (L (Int.toNat (↑i : Int))), tk := Op5.tk (L (Int.toNat (↑i : Int))) },
      ∀ (i_1 : Nat), i_1 < fldN { k := Op5.k (L (Int.toNat (↑i : Int))), fl := Op5.fl (L (Int.toNat (↑i : Int))), id := Op5.id (L (Int.toNat (↑i : Int))), ln := Op5.ln (L (Int.toNat (↑i : Int))), tk := Op5.tk (L (Int.toNat (↑i : Int))) } → Fl.k (fldF { k := Op5.k (L (Int.toNat (↑i : Int))), fl := Op5.fl (L (Int.toNat (↑i : Int))), id := Op5.id (L (Int.toNat (↑i : Int))), ln := Op5.ln (L (Int.toNat (↑i : Int))), tk := Op5.tk (L (Int.toNat (↑i : Int))) } i_1) = Fl.k (flOf (gF (fldF { k := Op5.k (L (Int.toNat (↑i : Int))), fl := Op5.fl (L (Int.toNat (↑i : Int))), id := Op5.id (L (Int.toNat (↑i : Int))), ln := Op5.ln (L (Int.toNat (↑i : Int))), tk := Op5.tk (L (Int.toNat (↑i : Int))) })) i_1) ∧ Fl.n (fldF { k := Op5.k (L (Int.toNat (↑i : Int))), fl := Op5.fl (L (Int.toNat (↑i : Int))), id := Op5.id (L (Int.toNat (↑i : Int))), ln := Op5.ln (L (Int.toNat (↑i : Int))), tk := Op5.tk (L (Int.toNat (↑i : Int))) } i_1) = Fl.n (flOf (gF (fldF { k := Op5.k (L (Int.toNat (↑i : Int))), fl := Op5.fl (L (Int.toNat (↑i : Int))), id := Op5.id (L (Int.toNat (↑i : Int))), ln := Op5.ln (L (Int.toNat (↑i : Int))), tk := Op5.tk (L (Int.toNat (↑i : Int))) })) i_1) ∧ Fl.s (fldF { k := Op5.k (L (Int.toNat (↑i : Int))), fl := Op5.fl (L (Int.toNat (↑i : Int))), id := Op5.id (L (Int.toNat (↑i : Int))), ln := Op5.ln (L (Int.toNat (↑i : Int))), tk := Op5.tk (L (Int.toNat (↑i : Int))) } i_1) = Fl.s (flOf (gF (fldF { k := Op5.k (L (Int.toNat (↑i : Int))), fl := Op5.fl (L (Int.toNat (↑i : Int))), id := Op5.id (L (Int.toNat (↑i : Int))), ln := Op5.ln (L (Int.toNat (↑i : Int))), tk := Op5.tk (L (Int.toNat (↑i : Int))) })) i_1) ∧ True,
      (↑(ByteArray.size s + ByteArray.size (putStr (flOf (gF (fldF { k := Op5.k (L (Int.toNat (↑i : Int))), fl := Op5.fl (L (Int.toNat (↑i : Int))), id := Op5.id (L (Int.toNat (↑i : Int))), ln := Op5.ln (L (Int.toNat (↑i : Int))), tk := Op5.tk (L (Int.toNat (↑i : Int))) }))) (fldN { k := Op5.k (L (Int.toNat (↑i : Int))), fl := Op5.fl (L (Int.toNat (↑i : Int))), id := Op5.id (L (Int.toNat (↑i : Int))), ln := Op5.ln (L (Int.toNat (↑i : Int))), tk := Op5.tk (L (Int.toNat (↑i : Int))) }))) : Int) ≤ IntKind.max IntKind.i64,
      s ++ putStr (flOf (gF (fldF { k := Op5.k (L (Int.toNat (↑i : Int))), fl := Op5.fl (L (Int.toNat (↑i : Int))), id := Op5.id (L (Int.toNat (↑i : Int))), ln := Op5.ln (L (Int.toNat (↑i : Int))), tk := Op5.tk (L (Int.toNat (↑i : Int))) }))) (fldN { k := Op5.k (L (Int.toNat (↑i : Int))), fl := Op5.fl (L (Int.toNat (↑i : Int))), id := Op5.id (L (Int.toNat (↑i : Int))), ln := Op5.ln (L (Int.toNat (↑i : Int))), tk := Op5.tk (L (Int.toNat (↑i : Int))) }) = r,
      IntKind.wrap IntKind.i64 ((↑i : Int) + (1 : Int)) = (↑i : Int) + (1 : Int),
      len = len,
      ∀ (i : Nat), i < len → Op5.k (L i) = Op5.k (L i) ∧ Op5.fl (L i) = Op5.fl (L i) ∧ Op5.id (L i) = Op5.id (L i) ∧ Op5.ln (L i) = Op5.ln (L i) ∧ Op5.tk (L i) = Op5.tk (L i) ∧ True]) (by kernel_rfl) (.cons (by exact decide_eq_true (by omega)) (.cons (by omega) (.cons (by omega) (.cons (by assumption) (.cons (by (simp [*]; done)) (.cons (by omega) (.cons (by omega) (.cons (by assumption) (.cons (by assumption) (.cons (by assumption) (.cons (by assumption) (.cons (by assumption) (.cons (by assumption) (.cons (by assumption) (.cons (by rfl) (.cons (by rfl) (.cons (by rfl) (.cons (by rfl) (.cons (by rfl) (.cons (by (intro _ _; rfl)) (.cons (by assumption) (.cons (by assumption) (.cons (by rfl) (.cons (by (intro _ _; exact ⟨rfl, rfl, rfl, trivial⟩)) (.cons (by (show ((s.size + (putStr (fldF ⟨(L i).k, (L i).fl, (L i).id, (L i).ln, (L i).tk⟩) (fldN ⟨(L i).k, (L i).fl, (L i).id, (L i).ln, (L i).tk⟩)).size : Nat) : Int) ≤ IntKind.max IntKind.i64; rw [eT]; exact hz)) (.cons (by (show s ++ putStr (fldF ⟨(L i).k, (L i).fl, (L i).id, (L i).ln, (L i).tk⟩) (fldN ⟨(L i).k, (L i).fl, (L i).id, (L i).ln, (L i).tk⟩) = r; rw [eT]; exact er)) (.cons (by exact w64 (by omega) (by omega)) (.cons (by rfl) (.cons (by (intro _ _; exact ⟨rfl, rfl, rfl, rfl, rfl, trivial⟩)) .nil))))))))))))))))))))))))))))) (Nat.le_of_ble_eq_true (by kernel_rfl))

set_option maxHeartbeats 2000000 in
theorem qq_r (len i : Nat) (L : Nat → Op5) (s : ByteArray) (hi : i < len) (hl : len ≤ 100000) (w0 : 0 ≤ (L i).ln) (hr : rgt ⟨(L i).k, (L i).fl, (L i).id, (L i).ln, (L i).tk⟩ = false) : CodeOk Try.prog 1 (loopOf Try.f13 0) (mkSt 33 [(0, .nv (.one (.own 0))), (4, sA s), (5, iA i)] [.ro 5 len (gO L)]) .ret (mkSt 33 [(2, sA ⟨#[]⟩), (3, bA false)] [.ro 5 len (gO L)]) :=
  code_run GoE_ok (orc := ⟨[true, true], []⟩) (obl := [decide ((↑i : Int) < (↑len : Int)) = true,
      (0 : Int) ≤ (↑i : Int),
      (↑i : Int) < (↑len : Int),
      Int.toNat (↑i : Int) < len,
      (!rgt { k := Op5.k (L (Int.toNat (↑i : Int))), fl := Op5.fl (L (Int.toNat (↑i : Int))), id := Op5.id (L (Int.toNat (↑i : Int))), ln := Op5.ln (L (Int.toNat (↑i : Int))), tk := Op5.tk (L (Int.toNat (↑i : Int))) }) = true,
      (ByteArray.mk #[]) = (ByteArray.mk #[]),
      false = false,
      len = len,
      ∀ (i : Nat), i < len → Op5.k (L i) = Op5.k (L i) ∧ Op5.fl (L i) = Op5.fl (L i) ∧ Op5.id (L i) = Op5.id (L i) ∧ Op5.ln (L i) = Op5.ln (L i) ∧ Op5.tk (L i) = Op5.tk (L i) ∧ True]) (by kernel_rfl) (.cons (by exact decide_eq_true (by omega)) (.cons (by omega) (.cons (by omega) (.cons (by assumption) (.cons (by (simp [*]; done)) (.cons (by rfl) (.cons (by rfl) (.cons (by rfl) (.cons (by (intro _ _; exact ⟨rfl, rfl, rfl, rfl, rfl, trivial⟩)) .nil))))))))) (Nat.le_of_ble_eq_true (by kernel_rfl))

set_option maxHeartbeats 2000000 in
theorem qq_e (len : Nat) (L : Nat → Op5) (s : ByteArray) : CodeOk Try.prog 1 (loopOf Try.f13 0) (mkSt 33 [(0, .nv (.one (.own 0))), (4, sA s), (5, iA len)] [.ro 5 len (gO L)]) (.exit 0) (mkSt 33 [(4, sA s)] [.ro 5 len (gO L)]) :=
  code_run GoE_ok (orc := ⟨[false], []⟩) (obl := [decide ((↑len : Int) < (↑len : Int)) = false,
      s = s,
      len = len,
      ∀ (i : Nat), i < len → Op5.k (L i) = Op5.k (L i) ∧ Op5.fl (L i) = Op5.fl (L i) ∧ Op5.id (L i) = Op5.id (L i) ∧ Op5.ln (L i) = Op5.ln (L i) ∧ Op5.tk (L i) = Op5.tk (L i) ∧ True]) (by kernel_rfl) (.cons (by exact decide_eq_false (by omega)) (.cons (by rfl) (.cons (by rfl) (.cons (by (intro _ _; exact ⟨rfl, rfl, rfl, rfl, rfl, trivial⟩)) .nil)))) (Nat.le_of_ble_eq_true (by kernel_rfl))

set_option maxHeartbeats 2000000 in
theorem qq_k (len : Nat) (L : Nat → Op5) (s : ByteArray) (l0 : CodeOk Try.prog 1 (.loop (loopOf Try.f13 0)) (mkSt 33 [(0, .nv (.one (.own 0))), (4, sA ⟨#[]⟩), (5, iA 0)] [.ro 5 len (gO L)]) (.exit 0) (mkSt 33 [(4, sA s)] [.ro 5 len (gO L)])) : FnOk Try.prog 13 ([.nv (.one (.own 0))]) ([.ro 5 len (gO L)]) (.tup [.one (.val (.string s)), .one (.val (.bool true))]) ([.ro 5 len (gO L)]) :=
  fn_run GoE_ok Try.func13 (orc := ⟨[], [⟨mkSt 33 [(0, .nv (.one (.own 0))), (4, sA ⟨#[]⟩), (5, iA 0)] [.ro 5 len (gO L)], .exit 0, mkSt 33 [(4, sA s)] [.ro 5 len (gO L)]⟩]⟩) (obl := [(ByteArray.mk #[]) = (ByteArray.mk #[]),
      (0 : Int) = (0 : Int),
      len = len,
      ∀ (i : Nat), i < len → Op5.k (L i) = Op5.k (L i) ∧ Op5.fl (L i) = Op5.fl (L i) ∧ Op5.id (L i) = Op5.id (L i) ∧ Op5.ln (L i) = Op5.ln (L i) ∧ Op5.tk (L i) = Op5.tk (L i) ∧ True,
      (1 : Nat) ≤ (1 : Nat),
      CodeOk Try.prog (1 : Nat) (Code.loop (loopOf Try.f13 (0 : Nat))) (mkSt (33 : Nat) [((0 : Nat), SV.nv (NV.one (At.own (0 : Nat)))), ((4 : Nat), sA (ByteArray.mk #[])), ((5 : Nat), iA (0 : Int))] [Seg.ro (5 : Nat) len (gO L)]) (Ex.exit (0 : Nat)) (mkSt (33 : Nat) [((4 : Nat), sA s)] [Seg.ro (5 : Nat) len (gO L)]),
      s = s,
      true = true,
      len = len,
      ∀ (i : Nat), i < len → Op5.k (L i) = Op5.k (L i) ∧ Op5.fl (L i) = Op5.fl (L i) ∧ Op5.id (L i) = Op5.id (L i) ∧ Op5.ln (L i) = Op5.ln (L i) ∧ Op5.tk (L i) = Op5.tk (L i) ∧ True]) (by kernel_rfl) (.cons (by rfl) (.cons (by rfl) (.cons (by rfl) (.cons (by (intro _ _; exact ⟨rfl, rfl, rfl, rfl, rfl, trivial⟩)) (.cons (by trivial) (.cons (by assumption) (.cons (by rfl) (.cons (by rfl) (.cons (by rfl) (.cons (by (intro _ _; exact ⟨rfl, rfl, rfl, rfl, rfl, trivial⟩)) .nil)))))))))) (Nat.le_of_ble_eq_true (by kernel_rfl))

set_option maxHeartbeats 2000000 in
theorem qq_x (len : Nat) (L : Nat → Op5) (l0 : CodeOk Try.prog 1 (.loop (loopOf Try.f13 0)) (mkSt 33 [(0, .nv (.one (.own 0))), (4, sA ⟨#[]⟩), (5, iA 0)] [.ro 5 len (gO L)]) .ret (mkSt 33 [(2, sA ⟨#[]⟩), (3, bA false)] [.ro 5 len (gO L)])) : FnOk Try.prog 13 ([.nv (.one (.own 0))]) ([.ro 5 len (gO L)]) (.tup [.one (.val (.string ⟨#[]⟩)), .one (.val (.bool false))]) ([.ro 5 len (gO L)]) :=
  fn_run GoE_ok Try.func13 (orc := ⟨[], [⟨mkSt 33 [(0, .nv (.one (.own 0))), (4, sA ⟨#[]⟩), (5, iA 0)] [.ro 5 len (gO L)], .ret, mkSt 33 [(2, sA ⟨#[]⟩), (3, bA false)] [.ro 5 len (gO L)]⟩]⟩) (obl := [(ByteArray.mk #[]) = (ByteArray.mk #[]),
      (0 : Int) = (0 : Int),
      len = len,
      ∀ (i : Nat), i < len → Op5.k (L i) = Op5.k (L i) ∧ Op5.fl (L i) = Op5.fl (L i) ∧ Op5.id (L i) = Op5.id (L i) ∧ Op5.ln (L i) = Op5.ln (L i) ∧ Op5.tk (L i) = Op5.tk (L i) ∧ True,
      (1 : Nat) ≤ (1 : Nat),
      CodeOk Try.prog (1 : Nat) (Code.loop (loopOf Try.f13 (0 : Nat))) (mkSt (33 : Nat) [((0 : Nat), SV.nv (NV.one (At.own (0 : Nat)))), ((4 : Nat), sA (ByteArray.mk #[])), ((5 : Nat), iA (0 : Int))] [Seg.ro (5 : Nat) len (gO L)]) Ex.ret (mkSt (33 : Nat) [((2 : Nat), sA (ByteArray.mk #[])), ((3 : Nat), bA false)] [Seg.ro (5 : Nat) len (gO L)]),
      (ByteArray.mk #[]) = (ByteArray.mk #[]),
      false = false,
      len = len,
      ∀ (i : Nat), i < len → Op5.k (L i) = Op5.k (L i) ∧ Op5.fl (L i) = Op5.fl (L i) ∧ Op5.id (L i) = Op5.id (L i) ∧ Op5.ln (L i) = Op5.ln (L i) ∧ Op5.tk (L i) = Op5.tk (L i) ∧ True]) (by kernel_rfl) (.cons (by rfl) (.cons (by rfl) (.cons (by rfl) (.cons (by (intro _ _; exact ⟨rfl, rfl, rfl, rfl, rfl, trivial⟩)) (.cons (by trivial) (.cons (by assumption) (.cons (by rfl) (.cons (by rfl) (.cons (by rfl) (.cons (by (intro _ _; exact ⟨rfl, rfl, rfl, rfl, rfl, trivial⟩)) .nil)))))))))) (Nat.le_of_ble_eq_true (by kernel_rfl))
end Go.Proofs.Ytecgigeahkijaaa
