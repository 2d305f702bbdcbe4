/- Runs of Go code, as printed by a program: no condition beyond those that each states. -/
import Derived.Test.YtmhkbepnankopaaRnD
import Derived.Test.YtmhkbepnankopaaChecked
import Derived.KernelRfl
namespace Go.Proofs.Ytmhkbepnankopaa
set_option linter.unusedVariables false
set_option linter.unusedSimpArgs false
set_option maxRecDepth 100000
open Go.RowKit E
set_option maxHeartbeats 2000000 in
theorem tw_n (n i : Nat) (F : Fl) (hi : i < n) (hn : n ≤ 64) (hx : idx (colOf (gU32 F.id)) (F.id i) i = -1) : CodeOk Try.prog 1 (loopOf Try.f43 0) (mkSt 22 [(0, .nv (.one (.own 0))), (3, .nv (.one (.own 1))), (6, .nv (.one (.own 0))), (7, iA n), (8, iA i)] [.ro 5 n (gFl F), .row 27 1 i (gU32 F.id)]) .normal (mkSt 22 [(0, .nv (.one (.own 0))), (3, .nv (.one (.own 1))), (6, .nv (.one (.own 0))), (7, iA n), (8, iA (i + 1 : Nat))] [.ro 5 n (gFl F), .row 27 1 (i + 1 : Nat) (gU32 F.id)]) :=
  code_run Grq_ok (orc := ⟨[true, false], []⟩) (obl := [decide ((↑i : Int) < (↑n : Int)) = true,
      (0 : Int) ≤ (↑i : Int),
      (↑i : Int) < (↑n : Int),
      Int.toNat (↑i : Int) < n,
      i ≤ (4611686018427387904 : Nat),
      Fl.id F (Int.toNat (↑i : Int)) = Fl.id F (Int.toNat (↑i : Int)),
      i = i,
      ∀ (i_1 : Nat), i_1 < i → Fl.id F i_1 = colOf (gU32 (Fl.id F)) i_1 ∧ True,
      decide ((0 : Int) ≤ idx (colOf (gU32 (Fl.id F))) (Fl.id F (Int.toNat (↑i : Int))) i) = false,
      i + (1 : Nat) ≤ (4611686018427387904 : Nat),
      (i + (1 : Nat)) * (4 : Nat) ≤ (140737488355328 : Nat),
      (↑n : Int) = (↑n : Int),
      IntKind.wrap IntKind.i64 ((↑i : Int) + (1 : Int)) = (↑(i + (1 : Nat)) : Int),
      n = n,
      ∀ (i : Nat), i < n → Fl.id F i = Fl.id F i ∧ Fl.co F i = Fl.co F i ∧ Fl.bu F i = Fl.bu F i ∧ Fl.si F i = Fl.si F i ∧ Fl.ca F i = Fl.ca F i ∧ True,
      i + (1 : Nat) = i + (1 : Nat),
      ∀ (i_1 : Nat), i_1 < i + (1 : Nat) → AllT (leAts ([(nat_lit 0, Bd.same (nat_lit 0))] ++ ([((0 : Nat), Bd.same (0 : Nat))] ++ ([((1 : Nat), Bd.same (4 : Nat))] ++ ([((0 : Nat), Bd.same (0 : Nat))] ++ ([] ++ ([] ++ []))))) ++ ([] ++ ([] ++ ([] ++ ([] ++ []))) ++ ([] ++ []))) (2 : Nat) (if i_1 = i then [At.val (Value.int IntKind.u32 (Fl.id F (Int.toNat (↑i : Int))))] else gU32 (Fl.id F) i_1) (gU32 (Fl.id F) i_1))]) (by kernel_rfl) (.cons (by exact decide_eq_true (by omega)) (.cons (by omega) (.cons (by omega) (.cons (by assumption) (.cons (by omega) (.cons (by rfl) (.cons (by rfl) (.cons (by (intro _ _; exact ⟨rfl, trivial⟩)) (.cons (by (simp [*]; done)) (.cons (by omega) (.cons (by omega) (.cons (by rfl) (.cons (by exact w64 (by omega) (by omega)) (.cons (by rfl) (.cons (by (simp; done)) (.cons (by rfl) (.cons (by (refine leG_eq (fun i hi => ?_) (fun _ _ => rfl); (repeat' split) <;> first | rfl | omega | (subst_vars; rfl) | (simp_all; done))) .nil))))))))))))))))) (Nat.le_of_ble_eq_true (by kernel_rfl))

set_option maxHeartbeats 2000000 in
theorem tw_f (n i : Nat) (F : Fl) (hi : i < n) (hn : n ≤ 64) (hx : 0 ≤ idx (colOf (gU32 F.id)) (F.id i) i) : CodeOk Try.prog 1 (loopOf Try.f43 0) (mkSt 22 [(0, .nv (.one (.own 0))), (3, .nv (.one (.own 1))), (6, .nv (.one (.own 0))), (7, iA n), (8, iA i)] [.ro 5 n (gFl F), .row 27 1 i (gU32 F.id)]) .ret (mkSt 22 [(2, bA true)] [.ro 5 n (gFl F)]) :=
  code_run Grq_ok (orc := ⟨[true, true], []⟩) (obl := [decide ((↑i : Int) < (↑n : Int)) = true,
      (0 : Int) ≤ (↑i : Int),
      (↑i : Int) < (↑n : Int),
      Int.toNat (↑i : Int) < n,
      i ≤ (4611686018427387904 : Nat),
      Fl.id F (Int.toNat (↑i : Int)) = Fl.id F (Int.toNat (↑i : Int)),
      i = i,
      ∀ (i_1 : Nat), i_1 < i → Fl.id F i_1 = colOf (gU32 (Fl.id F)) i_1 ∧ True,
      decide ((0 : Int) ≤ idx (colOf (gU32 (Fl.id F))) (Fl.id F (Int.toNat (↑i : Int))) i) = true,
      true = true,
      n = n,
      ∀ (i : Nat), i < n → Fl.id F i = Fl.id F i ∧ Fl.co F i = Fl.co F i ∧ Fl.bu F i = Fl.bu F i ∧ Fl.si F i = Fl.si F i ∧ Fl.ca F i = Fl.ca F i ∧ True]) (by kernel_rfl) (.cons (by exact decide_eq_true (by omega)) (.cons (by omega) (.cons (by omega) (.cons (by assumption) (.cons (by omega) (.cons (by rfl) (.cons (by rfl) (.cons (by (intro _ _; exact ⟨rfl, trivial⟩)) (.cons (by (simp [*]; done)) (.cons (by rfl) (.cons (by rfl) (.cons (by (simp; done)) .nil)))))))))))) (Nat.le_of_ble_eq_true (by kernel_rfl))

set_option maxHeartbeats 2000000 in
theorem tw_e (n : Nat) (F : Fl) (hn : n ≤ 64) : CodeOk Try.prog 1 (loopOf Try.f43 0) (mkSt 22 [(0, .nv (.one (.own 0))), (3, .nv (.one (.own 1))), (6, .nv (.one (.own 0))), (7, iA n), (8, iA n)] [.ro 5 n (gFl F), .row 27 1 n (gU32 F.id)]) (.exit 0) (mkSt 22 [] [.ro 5 n (gFl F)]) :=
  code_run Grq_ok (orc := ⟨[false], []⟩) (obl := [decide ((↑n : Int) < (↑n : Int)) = false,
      n = n,
      ∀ (i : Nat), i < n → Fl.id F i = Fl.id F i ∧ Fl.co F i = Fl.co F i ∧ Fl.bu F i = Fl.bu F i ∧ Fl.si F i = Fl.si F i ∧ Fl.ca F i = Fl.ca F i ∧ True]) (by kernel_rfl) (.cons (by exact decide_eq_false (by omega)) (.cons (by rfl) (.cons (by (simp; done)) .nil))) (Nat.le_of_ble_eq_true (by kernel_rfl))

set_option maxHeartbeats 2000000 in
theorem tw_no (n : Nat) (F : Fl) (hn : n ≤ 64) (l : CodeOk Try.prog 1 (.loop (loopOf Try.f43 0)) (mkSt 22 [(0, .nv (.one (.own 0))), (3, .nv (.one (.own 1))), (6, .nv (.one (.own 0))), (7, iA n), (8, iA (0 : Nat))] [.ro 5 n (gFl F), .row 27 1 (0 : Nat) (gU32 F.id)]) (.exit 0) (mkSt 22 [] [.ro 5 n (gFl F)])) : FnOk Try.prog 43 ([.nv (.one (.own 0))]) ([.ro 5 n (gFl F)]) (bA false) ([.ro 5 n (gFl F)]) :=
  fn_run Grq_ok Try.func43 (orc := ⟨[], [⟨mkSt 22 [(0, .nv (.one (.own 0))), (3, .nv (.one (.own 1))), (6, .nv (.one (.own 0))), (7, iA n), (8, iA (0 : Nat))] [.ro 5 n (gFl F), .row 27 1 (0 : Nat) (gU32 F.id)], .exit 0, mkSt 22 [] [.ro 5 n (gFl F)]⟩]⟩) (obl := [(↑n : Int) = (↑n : Int),
      (0 : Int) = (↑(0 : Nat) : Int),
      n = n,
      ∀ (i : Nat), i < n → Fl.id F i = Fl.id F i ∧ Fl.co F i = Fl.co F i ∧ Fl.bu F i = Fl.bu F i ∧ Fl.si F i = Fl.si F i ∧ Fl.ca F i = Fl.ca F i ∧ True,
      (0 : Nat) = (0 : Nat),
      (1 : Nat) ≤ (2 : Nat),
      CodeOk Try.prog (1 : Nat) (Code.loop (loopOf Try.f43 (0 : Nat))) (mkSt (22 : Nat) [((0 : Nat), SV.nv (NV.one (At.own (0 : Nat)))), ((3 : Nat), SV.nv (NV.one (At.own (1 : Nat)))), ((6 : Nat), SV.nv (NV.one (At.own (0 : Nat)))), ((7 : Nat), iA (↑n : Int)), ((8 : Nat), iA (↑(0 : Nat) : Int))] [Seg.ro (5 : Nat) n (gFl F), Seg.row (27 : TypeId) (1 : Nat) (0 : Nat) (gU32 (Fl.id F))]) (Ex.exit (0 : Nat)) (mkSt (22 : Nat) [] [Seg.ro (5 : Nat) n (gFl F)]),
      false = false,
      n = n,
      ∀ (i : Nat), i < n → Fl.id F i = Fl.id F i ∧ Fl.co F i = Fl.co F i ∧ Fl.bu F i = Fl.bu F i ∧ Fl.si F i = Fl.si F i ∧ Fl.ca F i = Fl.ca F i ∧ True]) (by kernel_rfl) (.cons (by rfl) (.cons (by rfl) (.cons (by rfl) (.cons (by (simp; done)) (.cons (by rfl) (.cons (by trivial) (.cons (by assumption) (.cons (by rfl) (.cons (by rfl) (.cons (by (simp; done)) .nil)))))))))) (Nat.le_of_ble_eq_true (by kernel_rfl))

set_option maxHeartbeats 2000000 in
theorem tw_yes (n : Nat) (F : Fl) (hn : n ≤ 64) (l : CodeOk Try.prog 1 (.loop (loopOf Try.f43 0)) (mkSt 22 [(0, .nv (.one (.own 0))), (3, .nv (.one (.own 1))), (6, .nv (.one (.own 0))), (7, iA n), (8, iA (0 : Nat))] [.ro 5 n (gFl F), .row 27 1 (0 : Nat) (gU32 F.id)]) .ret (mkSt 22 [(2, bA true)] [.ro 5 n (gFl F)])) : FnOk Try.prog 43 ([.nv (.one (.own 0))]) ([.ro 5 n (gFl F)]) (bA true) ([.ro 5 n (gFl F)]) :=
  fn_run Grq_ok Try.func43 (orc := ⟨[], [⟨mkSt 22 [(0, .nv (.one (.own 0))), (3, .nv (.one (.own 1))), (6, .nv (.one (.own 0))), (7, iA n), (8, iA (0 : Nat))] [.ro 5 n (gFl F), .row 27 1 (0 : Nat) (gU32 F.id)], .ret, mkSt 22 [(2, bA true)] [.ro 5 n (gFl F)]⟩]⟩) (obl := [(↑n : Int) = (↑n : Int),
      (0 : Int) = (↑(0 : Nat) : Int),
      n = n,
      ∀ (i : Nat), i < n → Fl.id F i = Fl.id F i ∧ Fl.co F i = Fl.co F i ∧ Fl.bu F i = Fl.bu F i ∧ Fl.si F i = Fl.si F i ∧ Fl.ca F i = Fl.ca F i ∧ True,
      (0 : Nat) = (0 : Nat),
      (1 : Nat) ≤ (2 : Nat),
      CodeOk Try.prog (1 : Nat) (Code.loop (loopOf Try.f43 (0 : Nat))) (mkSt (22 : Nat) [((0 : Nat), SV.nv (NV.one (At.own (0 : Nat)))), ((3 : Nat), SV.nv (NV.one (At.own (1 : Nat)))), ((6 : Nat), SV.nv (NV.one (At.own (0 : Nat)))), ((7 : Nat), iA (↑n : Int)), ((8 : Nat), iA (↑(0 : Nat) : Int))] [Seg.ro (5 : Nat) n (gFl F), Seg.row (27 : TypeId) (1 : Nat) (0 : Nat) (gU32 (Fl.id F))]) Ex.ret (mkSt (22 : Nat) [((2 : Nat), bA true)] [Seg.ro (5 : Nat) n (gFl F)]),
      true = true,
      n = n,
      ∀ (i : Nat), i < n → Fl.id F i = Fl.id F i ∧ Fl.co F i = Fl.co F i ∧ Fl.bu F i = Fl.bu F i ∧ Fl.si F i = Fl.si F i ∧ Fl.ca F i = Fl.ca F i ∧ True]) (by kernel_rfl) (.cons (by rfl) (.cons (by rfl) (.cons (by rfl) (.cons (by (simp; done)) (.cons (by rfl) (.cons (by trivial) (.cons (by assumption) (.cons (by rfl) (.cons (by rfl) (.cons (by (simp; done)) .nil)))))))))) (Nat.le_of_ble_eq_true (by kernel_rfl))

end Go.Proofs.Ytmhkbepnankopaa
